import Derived.Test.YtbcjdlljmhfhdaaGreatDoorQHexaPrintsF1
import Derived.Lib.Strings
import Derived.Laws.RangeString
import Derived.Laws.BitsAllLaws
import Derived.KernelRfl
set_option linter.unusedVariables false
set_option linter.unusedSimpArgs false
/- Loops that answer from some number of rounds on. -/
namespace Go.Proofs.YtbcjdlljmhfhdaaGreatDoor.Eng
def Ev {α : Type} (g : Nat → Option α) (r : α) : Prop := ∃ n, ∀ k, n ≤ k → g k = some r
theorem Ev.now {α : Type} (r : α) : Ev (fun _ => some r) r := ⟨0, fun _ _ => rfl⟩
theorem Ev.bind {α β : Type} {g : Nat → Option α} {f : Nat → α → Option β} {a : α} {r : β} (h : Ev g a) (k : Ev (fun n => f n a) r) : Ev (fun n => (g n).bind (f n)) r := by
  obtain ⟨n, hn⟩ := h
  obtain ⟨m, hm⟩ := k
  exact ⟨n + m, fun i hi => by show (g i).bind (f i) = some r; rw [hn i (by omega), Option.bind_some]; exact hm i (by omega)⟩
theorem Ev.step {α : Type} {g f : Nat → Option α} {r : α} (h : ∀ k, g (k + 1) = f k) (k : Ev f r) : Ev g r := by
  obtain ⟨n, hn⟩ := k
  refine ⟨n + 1, fun i hi => ?_⟩
  obtain ⟨i, rfl⟩ : ∃ j, i = j + 1 := ⟨i - 1, by omega⟩
  rw [h]; exact hn i (by omega)
end Go.Proofs.YtbcjdlljmhfhdaaGreatDoor.Eng

/- Numbers as lists of digits to the base 2^32: their values, the normal list of a number; loops that answer from some number of rounds on. -/
set_option linter.unusedVariables false
set_option linter.unusedSimpArgs false
namespace Go.Proofs.YtbcjdlljmhfhdaaGreatDoor.Eng.K
open Go.RowKit

/-! ### what the printed functions are made of -/
theorem w64 {n : Int} (h0 : -9223372036854775808 ≤ n) (h1 : n < 9223372036854775808) : wrap64 n = n := by unfold wrap64; omega
theorem w64n {n : Int} (h0 : 0 ≤ n) (h1 : n < 9223372036854775808) : wrap64 n = n := by unfold wrap64; omega
theorem u64 {n : Int} (h0 : 0 ≤ n) (h1 : n < 18446744073709551616) : IntKind.u64.wrap n = n := by
  simp [IntKind.wrap, IntKind.bits, IntKind.signed]; omega
theorem u64m (n : Int) : IntKind.u64.wrap n = n % 18446744073709551616 := by
  simp [IntKind.wrap, IntKind.bits, IntKind.signed]
theorem rdn (xs : List Int) (n : Nat) : rd xs (n : Int) = xs.getD n 0 := by simp [rd]
theorem rd_app {xs ys : List Int} {y : Int} {i : Int} (h : i = (xs.length : Int)) : rd (xs ++ y :: ys) i = y := by
  subst h; simp [rd]
theorem set_app {xs ys : List Int} {y z : Int} {i : Int} (h : i = (xs.length : Int)) : (xs ++ y :: ys).set i.toNat z = (xs ++ [z]) ++ ys := by
  subst h; simp
theorem ev_eq {α : Type} {g : Nat → Option α} {r s : α} (h : Ev g r) (e : r = s) : Ev g s := e ▸ h
theorem ev_const {α : Type} {x : Option α} {r : α} (h : x = some r) : Ev (fun _ => x) r := by subst h; exact Ev.now r
theorem ev_pos {α : Type} {c : Prop} {_ : Decidable c} {g f : Nat → Option α} {r : α} (h : c) (k : Ev g r) : Ev (fun n => if c then g n else f n) r := by
  simpa [h] using k
theorem ev_neg {α : Type} {c : Prop} {_ : Decidable c} {g f : Nat → Option α} {r : α} (h : ¬ c) (k : Ev f r) : Ev (fun n => if c then g n else f n) r := by
  simpa [h] using k
theorem ev_bind {α β : Type} {x : Option α} {f : Nat → α → Option β} {a : α} {r : β} (h : x = some a) (k : Ev (fun n => f n a) r) : Ev (fun n => x.bind (f n)) r := by
  subst h; exact k
theorem ev_step {α : Type} {g : Nat → Option α} {r : α} (k : Ev (fun n => g (n + 1)) r) : Ev g r := Ev.step (fun _ => rfl) k
/-- answers that are the same from some round on -/
theorem Ev.unique {α : Type} {g : Nat → Option α} {r s : α} (h : Ev g r) (k : Ev g s) : r = s := by
  obtain ⟨a, ha⟩ := h; obtain ⟨b, hb⟩ := k
  have h1 := ha (max a b) (Nat.le_max_left _ _); have h2 := hb (max a b) (Nat.le_max_right _ _)
  rw [h1] at h2; exact Option.some.inj h2

/-! ### values -/
def Dg (l : List Int) : Prop := ∀ x ∈ l, 0 ≤ x ∧ x < 4294967296
def V : List Int → Nat
  | [] => 0
  | d :: l => d.toNat + 4294967296 * V l
def D (n : Nat) : List Int := if h : n = 0 then [] else ((n % 4294967296 : Nat) : Int) :: D (n / 4294967296)
termination_by n
decreasing_by omega

theorem Dg.nil : Dg [] := fun _ h => by simp at h
theorem Dg.cons {d : Int} {l : List Int} (h0 : 0 ≤ d) (h1 : d < 4294967296) (h : Dg l) : Dg (d :: l) := fun x hx => by
  rcases List.mem_cons.1 hx with rfl | hx
  · exact ⟨h0, h1⟩
  · exact h x hx
theorem Dg.head {d : Int} {l : List Int} (h : Dg (d :: l)) : 0 ≤ d ∧ d < 4294967296 := h d (by simp)
theorem Dg.tail {d : Int} {l : List Int} (h : Dg (d :: l)) : Dg l := fun x hx => h x (by simp [hx])
theorem Dg.app {a b : List Int} (h : Dg a) (k : Dg b) : Dg (a ++ b) := fun x hx => by
  rcases List.mem_append.1 hx with hx | hx
  · exact h x hx
  · exact k x hx
theorem Dg.left {a b : List Int} (h : Dg (a ++ b)) : Dg a := fun x hx => h x (by simp [hx])
theorem Dg.right {a b : List Int} (h : Dg (a ++ b)) : Dg b := fun x hx => h x (by simp [hx])
theorem Dg.take {a : List Int} (h : Dg a) (n : Nat) : Dg (a.take n) := fun x hx => h x (List.mem_of_mem_take hx)
theorem Dg.drop {a : List Int} (h : Dg a) (n : Nat) : Dg (a.drop n) := fun x hx => h x (List.mem_of_mem_drop hx)
theorem Dg.zeros (n : Nat) : Dg (List.replicate n 0) := fun x hx => by
  obtain ⟨_, rfl⟩ := List.mem_replicate.1 hx; omega
theorem Dg.getD {a : List Int} (h : Dg a) (n : Nat) : 0 ≤ a.getD n 0 ∧ a.getD n 0 < 4294967296 := by
  rw [List.getD_eq_getElem?_getD]
  cases e : a[n]? with
  | none => simp
  | some x => simpa using h x (List.mem_of_getElem? e)
theorem Dg.set {a : List Int} (h : Dg a) (n : Nat) {x : Int} (h0 : 0 ≤ x) (h1 : x < 4294967296) : Dg (a.set n x) := fun y hy => by
  rcases List.mem_or_eq_of_mem_set hy with hy | rfl
  · exact h y hy
  · exact ⟨h0, h1⟩
@[simp] theorem V_nil : V [] = 0 := rfl
@[simp] theorem V_cons (d : Int) (l : List Int) : V (d :: l) = d.toNat + 4294967296 * V l := rfl
theorem V_append (a b : List Int) : V (a ++ b) = V a + 4294967296 ^ a.length * V b := by
  induction a with
  | nil => simp
  | cons d a ih => simp [ih, Nat.pow_succ]; grind
theorem V_zeros (n : Nat) : V (List.replicate n 0) = 0 := by
  induction n with
  | zero => rfl
  | succ n ih => simp [List.replicate_succ, ih]
theorem V_lt {l : List Int} (h : Dg l) : V l < 4294967296 ^ l.length := by
  induction l with
  | nil => simp
  | cons d l ih =>
    have := ih h.tail; have := h.head
    simp only [V_cons, List.length_cons, Nat.pow_succ]
    omega
theorem D_zero : D 0 = [] := by unfold D; simp
theorem D_pos {n : Nat} (h : n ≠ 0) : D n = ((n % 4294967296 : Nat) : Int) :: D (n / 4294967296) := by
  conv => lhs; unfold D
  simp [h]
theorem V_D (n : Nat) : V (D n) = n := by
  induction n using Nat.strongRecOn with
  | _ n ih =>
    by_cases h : n = 0
    · subst h; simp [D_zero]
    · rw [D_pos h, V_cons, ih _ (by omega)]; omega
theorem Dg_D (n : Nat) : Dg (D n) := by
  induction n using Nat.strongRecOn with
  | _ n ih =>
    by_cases h : n = 0
    · subst h; rw [D_zero]; exact Dg.nil
    · rw [D_pos h]; exact Dg.cons (by omega) (by omega) (ih _ (by omega))
theorem D_cons {d : Int} {n : Nat} (h0 : 0 ≤ d) (h1 : d < 4294967296) (h : d ≠ 0 ∨ n ≠ 0) : D (d.toNat + 4294967296 * n) = d :: D n := by
  rw [D_pos (by omega)]
  congr 1
  · omega
  · congr 1; omega
/-- a list that is a number's: no nought at the high end -/
def Nm (l : List Int) : Prop := D (V l) = l
instance (l : List Int) : Decidable (Nm l) := inferInstanceAs (Decidable (D (V l) = l))
theorem Nm.dg {l : List Int} (h : Nm l) : Dg l := h ▸ Dg_D _
theorem Nm_D (n : Nat) : Nm (D n) := by unfold Nm; rw [V_D]
theorem Nm_nil : Nm [] := by unfold Nm; exact D_zero
theorem Nm.inj {a b : List Int} (h : Nm a) (k : Nm b) (e : V a = V b) : a = b := by rw [← h, e, k]
theorem V_eq_zero {l : List Int} (h : Nm l) : V l = 0 ↔ l = [] := by
  constructor
  · intro e; rw [← h, e, D_zero]
  · rintro rfl; rfl
theorem Nm_snoc {l : List Int} {d : Int} (h : Dg l) (h0 : 0 < d) (h1 : d < 4294967296) : Nm (l ++ [d]) := by
  unfold Nm
  induction l with
  | nil =>
    have := D_cons (d := d) (n := 0) (by omega) h1 (by omega)
    simpa [D_zero] using this
  | cons x l ih =>
    have hx := h.head
    rw [List.cons_append, V_cons, D_cons hx.1 hx.2, ih h.tail]
    right; rw [V_append]
    have : 0 < 4294967296 ^ l.length := Nat.pow_pos (by omega)
    have : 0 < 4294967296 ^ l.length * V [d] := Nat.mul_pos this (by simp; omega)
    omega
theorem V_snoc_zero (l : List Int) : V (l ++ [0]) = V l := by rw [V_append]; simp
theorem D_len_le {l : List Int} (h : Dg l) : (D (V l)).length ≤ l.length := by
  induction l with
  | nil => simp [D_zero]
  | cons x l ih =>
    have hx := h.head
    by_cases e : x ≠ 0 ∨ V l ≠ 0
    · rw [V_cons, D_cons hx.1 hx.2 e]; simpa using ih h.tail
    · have h1 : x = 0 := by omega
      have h2 : V l = 0 := by omega
      simp [h1, h2, D_zero]
theorem Nm_last {l : List Int} {d : Int} (h : Nm (l ++ [d])) : d ≠ 0 := by
  intro e; subst e
  have h2 := D_len_le h.dg.left
  have h3 : D (V (l ++ [0])) = l ++ [0] := h
  rw [V_snoc_zero] at h3
  rw [h3] at h2
  simp at h2
  omega
theorem Nm_iff {l : List Int} (h : Dg l) : Nm l ↔ l = [] ∨ l.getD (l.length - 1) 0 ≠ 0 := by
  rcases List.eq_nil_or_concat l with rfl | ⟨a, d, rfl⟩
  · simp [Nm_nil]
  · rw [List.concat_eq_append] at h ⊢
    have : (a ++ [d]).getD ((a ++ [d]).length - 1) 0 = d := by simp
    rw [this]
    constructor
    · intro k; exact .inr (Nm_last k)
    · rintro (k | k)
      · simp at k
      · have := h d (by simp)
        exact Nm_snoc h.left (by omega) this.2
theorem D_len_lt {n k : Nat} (h : n < 4294967296 ^ k) : (D n).length ≤ k := by
  induction k generalizing n with
  | zero => have : n = 0 := by simpa using h
            subst this; simp [D_zero]
  | succ k ih =>
    by_cases e : n = 0
    · subst e; simp [D_zero]
    · rw [D_pos e, List.length_cons]
      have := ih (n := n / 4294967296) (by rw [Nat.pow_succ] at h; omega)
      omega
theorem D_len_ge {n : Nat} (h : n ≠ 0) : 4294967296 ^ ((D n).length - 1) ≤ n := by
  apply Nat.le_of_not_lt
  intro k
  have := D_len_lt k
  have : (D n).length ≠ 0 := by rw [D_pos h]; simp
  omega
theorem Nm.len {l : List Int} (h : Nm l) : (D (V l)).length = l.length := by rw [h]
end Go.Proofs.YtbcjdlljmhfhdaaGreatDoor.Eng.K

/- Texts as lists of bytes. -/
namespace Go.Proofs.YtbcjdlljmhfhdaaGreatDoor.Eng.K
open Go.RowKit Go.Proofs Go.Proofs.YtbcjdlljmhfhdaaGreatDoor.Eng
/-- a text's bytes -/
def tl (s : ByteArray) : List UInt8 := s.data.toList
theorem tl_len (s : ByteArray) : (tl s).length = s.size := by simp [tl]
theorem tl_inj {a b : ByteArray} : tl a = tl b ↔ a = b := ⟨fun h => by
  cases a; cases b
  congr
  exact Array.toList_inj.1 h, fun h => by rw [h]⟩
theorem tl_mk (l : List UInt8) : tl ⟨l.toArray⟩ = l := rfl
theorem tl_app (a b : ByteArray) : tl (a ++ b) = tl a ++ tl b := by simp [tl]
theorem tl_ext (s : ByteArray) (i j : Nat) : tl (s.extract i j) = ((tl s).take j).drop i := by
  simp only [tl, ByteArray.data_extract, Array.toList_extract, List.extract_eq_take_drop]
  rw [List.take_drop, List.drop_take, List.drop_take]
  congr 1
  omega
theorem tl_nil {s : ByteArray} : tl s = [] ↔ s = ⟨#[]⟩ := by
  rw [← tl_inj]
  simp [tl]
theorem tl_strOf (l : List Int) : tl (strOf l) = l.map fun n => UInt8.ofNat n.toNat := rfl
theorem tl_size_eq (s : ByteArray) : s.size = (tl s).length := (tl_len s).symm
end Go.Proofs.YtbcjdlljmhfhdaaGreatDoor.Eng.K
namespace Go.Proofs.YtbcjdlljmhfhdaaGreatDoor.Eng.K
open Go.RowKit Go.Proofs Go.Proofs.YtbcjdlljmhfhdaaGreatDoor.Eng
end Go.Proofs.YtbcjdlljmhfhdaaGreatDoor.Eng.K

/- Texts to the base 16 in plain words: digits, exponents, what a text says. -/
namespace Go.Proofs.YtbcjdlljmhfhdaaGreatDoor.Eng.K
/-- a hexadecimal digit's value -/
def hx (b : UInt8) : Option Nat := if 48 ≤ b.toNat ∧ b.toNat ≤ 57 then some (b.toNat - 48) else if 97 ≤ b.toNat ∧ b.toNat ≤ 102 then some (b.toNat - 87) else none
def isD (b : UInt8) : Bool := decide (48 ≤ b.toNat ∧ b.toNat ≤ 57)
def dval (l : List UInt8) (a : Nat) : Nat := l.foldl (fun a b => 10 * a + (b.toNat - 48)) a
/-- an exponent's sign, and what stands behind it -/
def expN : List UInt8 → Bool
  | 45 :: _ => true
  | _ => false
def expR : List UInt8 → List UInt8
  | 45 :: r => r
  | 43 :: r => r
  | r => r
def expOk (E : List UInt8) : Bool := decide (expR E ≠ []) && decide ((expR E).length ≤ 6) && (expR E).all isD
def expV (E : List UInt8) : Int := if expN E = true then -(dval (expR E) 0 : Int) else dval (expR E) 0
end Go.Proofs.YtbcjdlljmhfhdaaGreatDoor.Eng.K
namespace Go.Proofs.YtbcjdlljmhfhdaaGreatDoor.Eng.K
/-- the digit of a number below 16 -/
def hdig (d : Nat) : UInt8 := UInt8.ofNat (if d < 10 then 48 + d else 87 + d)
/-- the last k hexadecimal digits of a number -/
def hexl : Nat → Nat → List UInt8
  | 0, _ => []
  | k + 1, m => hexl k (m / 16) ++ [hdig (m % 16)]
theorem hexl_len (k m : Nat) : (hexl k m).length = k := by
  induction k generalizing m with
  | zero => rfl
  | succ k ih => simp [hexl, ih]
theorem hexl_pad {c m : Nat} (h : m < 16 ^ c) (j : Nat) : hexl (c + j) m = List.replicate j 48 ++ hexl c m := by
  induction c generalizing m with
  | zero =>
    have : m = 0 := by simpa using h
    subst this
    induction j with
    | zero => rfl
    | succ j ih =>
      rw [show 0 + (j + 1) = (0 + j) + 1 by omega, hexl, List.replicate_succ']
      simp only [hexl, List.append_nil] at ih ⊢
      rw [Nat.zero_div, ih]
      rfl
  | succ c ih =>
    rw [show c + 1 + j = (c + j) + 1 by omega, hexl, ih (by rw [Nat.pow_succ] at h; omega), hexl, List.append_assoc]
theorem hexl_take {k n : Nat} (h : n ≤ k) (m : Nat) : (hexl k m).take n = hexl n (m / 16 ^ (k - n)) := by
  obtain ⟨j, rfl⟩ : ∃ j, k = n + j := ⟨k - n, by omega⟩
  rw [Nat.add_sub_cancel_left]
  clear h
  induction j generalizing m with
  | zero => rw [Nat.add_zero, Nat.pow_zero, Nat.div_one, List.take_of_length_le (by rw [hexl_len]; exact Nat.le_refl _)]
  | succ j ih =>
    rw [show n + (j + 1) = (n + j) + 1 by omega, hexl, List.take_append_of_le_length (by rw [hexl_len]; omega), ih, Nat.div_div_eq_div_mul, Nat.pow_succ, Nat.mul_comm 16]
theorem hexl_front (i j X : Nat) : hexl (i + 1) (X / 16 ^ j) = hexl i (X / 16 ^ (j + 1)) ++ [hdig (X / 16 ^ j % 16)] := by
  rw [hexl, Nat.div_div_eq_div_mul, ← Nat.pow_succ]
theorem hexl_mod (k m : Nat) : hexl k (m % 16 ^ k) = hexl k m := by
  induction k generalizing m with
  | zero => rfl
  | succ k ih =>
    rw [hexl, hexl]
    have h1 : m % 16 ^ (k + 1) % 16 = m % 16 := Nat.mod_mod_of_dvd _ ⟨16 ^ k, by rw [Nat.pow_succ, Nat.mul_comm]⟩
    have h2 : m % 16 ^ (k + 1) / 16 = m / 16 % 16 ^ k := by
      rw [Nat.pow_succ, Nat.mul_comm (16 ^ k), Nat.mod_mul_right_div_self]
    rw [h1, h2, ih]
theorem bit_up (z p t : Nat) : z * 2 ^ p / 2 ^ t % 2 = if p ≤ t then z / 2 ^ (t - p) % 2 else 0 := by
  split
  · rename_i h
    obtain ⟨d, rfl⟩ : ∃ d, t = p + d := ⟨t - p, by omega⟩
    rw [Nat.add_sub_cancel_left, Nat.pow_add, Nat.mul_comm (2 ^ p), Nat.mul_div_mul_right _ _ (Nat.pow_pos (by omega))]
  · rename_i h
    obtain ⟨d, rfl⟩ : ∃ d, p = t + (d + 1) := ⟨p - t - 1, by omega⟩
    rw [show z * 2 ^ (t + (d + 1)) = (z * 2 ^ d * 2) * 2 ^ t by rw [Nat.pow_add, Nat.pow_succ]; grind, Nat.mul_div_cancel _ (Nat.pow_pos (by omega))]
    omega
theorem nib (X j : Nat) : X / 16 ^ j % 16 = 8 * (X / 2 ^ (4 * j + 3) % 2) + 4 * (X / 2 ^ (4 * j + 2) % 2) + 2 * (X / 2 ^ (4 * j + 1) % 2) + X / 2 ^ (4 * j) % 2 := by
  have e : (16 : Nat) ^ j = 2 ^ (4 * j) := by rw [Nat.pow_mul]
  have h : ∀ i, X / 2 ^ (4 * j + i) = X / 16 ^ j / 2 ^ i := fun i => by rw [Nat.pow_add, Nat.div_div_eq_div_mul, e]
  have h0 := h 0
  rw [Nat.add_zero] at h0
  rw [h 3, h 2, h 1, h0]
  generalize X / 16 ^ j = Y
  omega
end Go.Proofs.YtbcjdlljmhfhdaaGreatDoor.Eng.K

/- The first layer's plain functions: trimmed lists, comparisons, sums and differences are the numbers' own. -/
set_option linter.unusedVariables false
set_option linter.unusedSimpArgs false
namespace Go.Proofs.YtbcjdlljmhfhdaaGreatDoor.Eng.K
open Go.RowKit

theorem w64s {n : Nat} (h : n < 4611686018427387904) : wrap64 ((n : Int) + 1) = ((n + 1 : Nat) : Int) := by unfold wrap64; omega
theorem w64p {n : Nat} (h : n < 4611686018427387904) : wrap64 (((n + 1 : Nat) : Int) - 1) = (n : Int) := by unfold wrap64; omega

/-! ### trimmed -/
theorem trim_ev : ∀ (n : Nat) (l : List Int), l.length = n → Dg l → n < 4611686018427387904 → Ev (fun k => nat_trim.f k l) (D (V l))
  | 0, l, hn, hd, hb => by
    have : l = [] := List.eq_nil_of_length_eq_zero hn
    subst this
    refine ev_step (ev_const ?_)
    simp [nat_trim.f, nat_trim.l0, D_zero]
  | n + 1, l, hn, hd, hb => by
    rcases List.eq_nil_or_concat l with rfl | ⟨a, d, rfl⟩
    · simp at hn
    rw [List.concat_eq_append] at hn hd ⊢
    have hl : (a ++ [d]).length = n + 1 := hn
    have ha : a.length = n := by simpa using hn
    refine ev_step ?_
    show Ev (fun k => nat_trim.l0 (k + 1) (a ++ [d])) _
    simp only [nat_trim.l0, hl, w64p (n := n) (by omega)]
    refine ev_pos (by omega) (ev_pos (by omega) (ev_pos (by omega) ?_))
    rw [rd_app (by omega)]
    by_cases h0 : d = 0
    · subst h0
      refine ev_pos rfl (ev_pos (by omega) ?_)
      rw [V_snoc_zero]
      have : (a ++ [(0 : Int)]).take (n : Int).toNat = a := by simp [← ha]
      rw [this]
      exact ev_pos (by omega) (trim_ev n a ha hd.left (by omega))
    · refine ev_neg h0 ?_
      have := hd d (by simp)
      rw [Nm_snoc hd.left (by omega) this.2]
      exact Ev.now _
theorem nat_trim_ev {l : List Int} (hd : Dg l) (hb : l.length < 4611686018427387904) : Ev (fun k => nat_trim.f k l) (D (V l)) := trim_ev _ l rfl hd hb
theorem rtrim_ev (l : List Int) (hd : Dg l) (hb : l.length < 4611686018427387904) : ∀ (n : Nat) (a b : List Int), a.length = n → l = a ++ b → V b = 0 → Ev (fun k => cutplaneref01_Trim.l0 k l n) (D (V l))
  | 0, a, b, hn, he, h0 => by
    have : a = [] := List.eq_nil_of_length_eq_zero hn
    subst this
    refine ev_step ?_
    simp only [cutplaneref01_Trim.l0]
    refine ev_neg (by omega) (ev_pos (by omega) (ev_pos (by omega) ?_))
    rw [he]; simp [h0, D_zero]; exact Ev.now _
  | n + 1, a, b, hn, he, h0 => by
    rcases List.eq_nil_or_concat a with rfl | ⟨a, d, rfl⟩
    · simp at hn
    rw [List.concat_eq_append] at hn he
    have ha : a.length = n := by simpa using hn
    have hl : l.length = n + 1 + b.length := by rw [he]; simp [ha]; omega
    refine ev_step ?_
    simp only [cutplaneref01_Trim.l0, w64p (n := n) (by omega)]
    refine ev_pos (by omega) (ev_pos (by omega) (ev_pos (by omega) ?_))
    have hr : rd l n = d := by rw [he, List.append_assoc]; exact rd_app (by omega)
    rw [hr]
    by_cases hz : d = 0
    · refine ev_pos hz ?_
      exact rtrim_ev l hd hb n a (d :: b) ha (by rw [he]; simp) (by simp [h0, hz])
    · refine ev_neg hz (ev_pos (by omega) (ev_pos (by omega) ?_))
      have hd2 := hd
      rw [he] at hd2
      have h1 := hd2.left d (by simp)
      have h2 : V l = V (a ++ [d]) := by rw [he, V_append (a ++ [d]) b, h0]; simp
      have h3 : l.take ((n + 1 : Nat) : Int).toNat = a ++ [d] := by
        rw [he, Int.toNat_natCast]; exact List.take_left' (by simp [ha])
      rw [h3, h2, Nm_snoc hd2.left.left (by omega) h1.2]
      exact Ev.now _
theorem ref_Trim_ev {l : List Int} (hd : Dg l) (hb : l.length < 4611686018427387904) : Ev (fun k => cutplaneref01_Trim.f k l) (D (V l)) :=
  rtrim_ev l hd hb l.length l [] rfl (by simp) rfl
theorem V_two (n : Int) (h0 : 0 ≤ n) (h1 : n < 18446744073709551616) : V [n % 4294967296, (n / 4294967296) % 4294967296] = n.toNat := by
  simp; omega
theorem Dg_two (n : Int) : Dg [n % 4294967296, (n / 4294967296) % 4294967296] := Dg.cons (by omega) (by omega) (Dg.cons (by omega) (by omega) Dg.nil)
theorem nat_Of_ev {n : Int} (h0 : 0 ≤ n) (h1 : n < 18446744073709551616) : Ev (fun k => nat_Of.f k n) (D n.toNat) := by
  unfold nat_Of.f
  refine Ev.bind (nat_trim_ev (Dg_two n) (by simp)) ?_
  rw [V_two n h0 h1]; exact Ev.now _
theorem ref_Of_ev {n : Int} (h0 : 0 ≤ n) (h1 : n < 18446744073709551616) : Ev (fun k => cutplaneref01_Of.f k n) (D n.toNat) := by
  unfold cutplaneref01_Of.f
  refine Ev.bind (ref_Trim_ev (Dg_two n) (by simp)) ?_
  rw [V_two n h0 h1]; exact Ev.now _

/-! ### the same digits -/
/-! ### which lists are numbers -/
def may (l : List Int) : Bool := decide (l.length ≤ 4096) && decide (Nm l)
theorem may_iff {l : List Int} : may l = true ↔ l.length ≤ 4096 ∧ Nm l := by simp [may]
theorem nat_May_eq {l : List Int} (h : Dg l) (hb : l.length < 4611686018427387904) : nat_May.f l = some (may l) := by
  unfold nat_May.f may
  by_cases h1 : l.length ≤ 4096
  · rw [if_pos (by omega)]
    by_cases h2 : l.length = 0
    · have : l = [] := List.eq_nil_of_length_eq_zero h2
      subst this; simp [Nm_nil]
    · rw [if_neg (by omega)]
      have e : wrap64 ((l.length : Int) - 1) = ((l.length - 1 : Nat) : Int) := by unfold wrap64; omega
      rw [e, if_pos (by omega), if_pos (by omega), rdn]
      have h3 : l ≠ [] := fun e => h2 (by rw [e]; rfl)
      have h4 := Nm_iff h
      by_cases h5 : l.getD (l.length - 1) 0 = 0
      · have : ¬ Nm l := fun k => by rcases h4.1 k with k | k <;> contradiction
        rw [h5]; simp [this]
      · have : Nm l := h4.2 (.inr h5)
        simp only [h5, not_false_eq_true, decide_true]; simp [h1, this]
  · rw [if_neg (by omega)]; simp [h1]
/-! ### sums -/
theorem Dg.headD {b : List Int} (h : Dg b) : 0 ≤ b.headD 0 ∧ b.headD 0 < 4294967296 := by
  cases b with
  | nil => simp
  | cons y b => exact h.head
theorem V_headtail (b : List Int) : V b = (b.headD 0).toNat + 4294967296 * V b.tail := by
  cases b <;> simp
theorem drop_headD (b : List Int) (n : Nat) : (b.drop n).headD 0 = b.getD n 0 := by
  rw [List.headD_eq_head?_getD, List.head?_drop, List.getD_eq_getElem?_getD]
end Go.Proofs.YtbcjdlljmhfhdaaGreatDoor.Eng.K

/- The first layer's plain functions: products. -/
set_option linter.unusedVariables false
set_option linter.unusedSimpArgs false
namespace Go.Proofs.YtbcjdlljmhfhdaaGreatDoor.Eng.K
open Go.RowKit

theorem D_len_pos {l : List Int} (h : Nm l) (h0 : l ≠ []) : 4294967296 ^ (l.length - 1) ≤ V l := by
  have h1 : V l ≠ 0 := fun e => h0 ((V_eq_zero h).1 e)
  have := D_len_ge h1
  rwa [h.len] at this
def conv : List Int → List Int → Nat → Nat
  | [], _, _ => 0
  | x :: _, b, 0 => x.toNat * (b.getD 0 0).toNat
  | x :: a, b, k + 1 => x.toNat * (b.getD (k + 1) 0).toNat + conv a b k
end Go.Proofs.YtbcjdlljmhfhdaaGreatDoor.Eng.K

/- The first layer's statements: what they share. -/
set_option linter.unusedVariables false
set_option linter.unusedSimpArgs false
namespace Go.Proofs.YtbcjdlljmhfhdaaGreatDoor.Eng.K
open Go.RowKit

/-! ### a number's value as a word -/
theorem or_u64_disjoint {x y : Int} (h0 : 0 ≤ x ∧ x < 4294967296) (h1 : 0 ≤ y ∧ y < 4294967296) : Go.bits .or .u64 x (y * 4294967296) = x + y * 4294967296 := by
  obtain ⟨X, rfl⟩ := Int.eq_ofNat_of_zero_le h0.1
  obtain ⟨Y, rfl⟩ := Int.eq_ofNat_of_zero_le h1.1
  have e : (Y : Int) * 4294967296 = ((2 ^ 32 * Y : Nat) : Int) := by omega
  rw [e, u64_or_nat _ _ (by omega) (by omega), Nat.or_comm, ← Nat.two_pow_add_eq_or_of_lt (by omega)]
  omega
theorem shl_zero {d : Int} (h : 0 ≤ d ∧ d < 4294967296) : shl .u64 d 0 = d := by
  unfold shl; simp; exact u64 h.1 (by omega)
theorem shl_32 {d : Int} (h : 0 ≤ d ∧ d < 4294967296) : shl .u64 d 32 = d * 4294967296 := by
  unfold shl
  have e : min (32 : Int).toNat IntKind.u64.bits = 32 := by decide
  rw [e, show (2 : Int) ^ 32 = 4294967296 from rfl, u64 (by omega) (by omega)]
def numB (l : List Int) : Bool := may l && decide (l.length ≤ 2)
theorem nat_Num_ev {l : List Int} (h : Dg l) (hb : l.length < 4611686018427387904) : Ev (fun k => nat_Num.f k l) (if numB l then ((V l : Nat) : Int) else 0, numB l) := by
  unfold nat_Num.f
  refine ev_bind (nat_May_eq h hb) ?_
  have no : numB l = false → Ev (fun _ : Nat => some ((0 : Int), false)) (if numB l then ((V l : Nat) : Int) else 0, numB l) := by
    intro e
    rw [e]
    exact Ev.now _
  by_cases c1 : may l = true
  · rw [c1]
    (repeat (first | (with_reducible refine ev_pos ?_ ?_; focus (first | omega | assumption | (simp; done) | (simp; omega))) | (with_reducible refine ev_neg ?_ ?_; focus (first | omega | assumption | (simp; done) | (simp; omega)))))
    by_cases c2 : l.length > 2
    · (repeat (first | (with_reducible refine ev_pos ?_ ?_; focus (first | omega | assumption | (simp; done) | (simp; omega))) | (with_reducible refine ev_neg ?_ ?_; focus (first | omega | assumption | (simp; done) | (simp; omega)))))
      exact no (by unfold numB; rw [decide_eq_false (by omega)]; simp)
    · (repeat (first | (with_reducible refine ev_pos ?_ ?_; focus (first | omega | assumption | (simp; done) | (simp; omega))) | (with_reducible refine ev_neg ?_ ?_; focus (first | omega | assumption | (simp; done) | (simp; omega)))))
      have e : numB l = true := by unfold numB; rw [c1, decide_eq_true (by omega)]; rfl
      rw [e]
      have w0 : wrap64 (32 * 0) = 0 := by unfold wrap64; omega
      have w1 : wrap64 (0 + 1) = 1 := by unfold wrap64; omega
      have w2 : wrap64 (32 * 1) = 32 := by unfold wrap64; omega
      have w3 : wrap64 (1 + 1) = 2 := by unfold wrap64; omega
      match l, h with
      | [], h =>
        refine ev_step ?_
        simp only [nat_Num.l0]
        (repeat (first | (with_reducible refine ev_pos ?_ ?_; focus (first | omega | assumption | (simp; done) | (simp; omega))) | (with_reducible refine ev_neg ?_ ?_; focus (first | omega | assumption | (simp; done) | (simp; omega))))); exact Ev.now _
      | [x], h =>
        have hx := h.head
        refine ev_step ?_
        simp only [nat_Num.l0, w0, w1]
        (repeat (first | (with_reducible refine ev_pos ?_ ?_; focus (first | omega | assumption | (simp; done) | (simp; omega))) | (with_reducible refine ev_neg ?_ ?_; focus (first | omega | assumption | (simp; done) | (simp; omega)))))
        have r0 : rd [x] 0 = x := rfl
        rw [r0, u64 hx.1 (by omega), shl_zero hx, u64_or _ _ (by omega) (by omega) (by omega) (by omega)]
        refine ev_step ?_
        simp only [nat_Num.l0]
        (repeat (first | (with_reducible refine ev_pos ?_ ?_; focus (first | omega | assumption | (simp; done) | (simp; omega))) | (with_reducible refine ev_neg ?_ ?_; focus (first | omega | assumption | (simp; done) | (simp; omega)))))
        refine ev_eq (Ev.now _) ?_
        simp
      | [x, y], h =>
        have hx := h.head
        have hy := h.tail.head
        refine ev_step ?_
        simp only [nat_Num.l0, w0, w1]
        (repeat (first | (with_reducible refine ev_pos ?_ ?_; focus (first | omega | assumption | (simp; done) | (simp; omega))) | (with_reducible refine ev_neg ?_ ?_; focus (first | omega | assumption | (simp; done) | (simp; omega)))))
        have r0 : rd [x, y] 0 = x := rfl
        have r1 : rd [x, y] 1 = y := rfl
        rw [r0, u64 hx.1 (by omega), shl_zero hx, u64_or _ _ (by omega) (by omega) (by omega) (by omega)]
        have z : (((0 : Int).toNat ||| x.toNat : Nat) : Int) = x := by simp; omega
        rw [z]
        refine ev_step ?_
        simp only [nat_Num.l0, w2, w3]
        (repeat (first | (with_reducible refine ev_pos ?_ ?_; focus (first | omega | assumption | (simp; done) | (simp; omega))) | (with_reducible refine ev_neg ?_ ?_; focus (first | omega | assumption | (simp; done) | (simp; omega)))))
        rw [r1, u64 (n := y) hy.1 (by omega), shl_32 hy, or_u64_disjoint hx hy]
        refine ev_step ?_
        simp only [nat_Num.l0]
        (repeat (first | (with_reducible refine ev_pos ?_ ?_; focus (first | omega | assumption | (simp; done) | (simp; omega))) | (with_reducible refine ev_neg ?_ ?_; focus (first | omega | assumption | (simp; done) | (simp; omega)))))
        refine ev_eq (Ev.now _) ?_
        simp; omega
      | x :: y :: z :: l, h => simp at c2
  · have c1 : may l = false := by simpa using c1
    rw [c1]
    (repeat (first | (with_reducible refine ev_pos ?_ ?_; focus (first | omega | assumption | (simp; done) | (simp; omega))) | (with_reducible refine ev_neg ?_ ?_; focus (first | omega | assumption | (simp; done) | (simp; omega))))); exact no (by unfold numB; simp [c1])
end Go.Proofs.YtbcjdlljmhfhdaaGreatDoor.Eng.K

/- The first layer's plain functions: the length of a number in bits. -/
set_option linter.unusedVariables false
set_option linter.unusedSimpArgs false
namespace Go.Proofs.YtbcjdlljmhfhdaaGreatDoor.Eng.K
open Go.RowKit

/-- how many bits -/
def bl (n : Nat) : Nat := if n = 0 then 0 else n.log2 + 1
theorem bl_zero : bl 0 = 0 := rfl
theorem bl_le {n : Nat} (h : n ≠ 0) : 2 ^ (bl n - 1) ≤ n := by
  unfold bl; rw [if_neg h]; exact Nat.log2_self_le h
theorem lt_bl (n : Nat) : n < 2 ^ bl n := by
  unfold bl
  split
  · subst n; simp
  · exact Nat.lt_log2_self
theorem bl_pos {n : Nat} (h : n ≠ 0) : 0 < bl n := by unfold bl; rw [if_neg h]; omega
theorem bl_le_of_lt {n k : Nat} (h : n < 2 ^ k) : bl n ≤ k := by
  by_cases e : n = 0
  · subst e; simp [bl_zero]
  · have h1 := bl_le e
    have h2 := bl_pos e
    have : bl n - 1 < k := (Nat.pow_lt_pow_iff_right (a := 2) (by omega)).1 (Nat.lt_of_le_of_lt h1 h)
    omega
theorem bl_unique {n k : Nat} (h1 : 2 ^ k ≤ n) (h2 : n < 2 ^ (k + 1)) : bl n = k + 1 := by
  have := bl_le_of_lt h2
  have h3 : 2 ^ k < 2 ^ bl n := Nat.lt_of_le_of_lt h1 (lt_bl n)
  have := (Nat.pow_lt_pow_iff_right (a := 2) (by omega)).1 h3
  omega
theorem bl_shift {n k : Nat} (h : 2 ^ k ≤ n) : bl n = k + bl (n / 2 ^ k) := by
  have hp : 0 < 2 ^ k := Nat.pow_pos (by omega)
  have h0 : n / 2 ^ k ≠ 0 := by
    have := (Nat.le_div_iff_mul_le hp (x := 1) (y := n)).2 (by omega)
    omega
  have h1 := bl_le h0
  have h2 := lt_bl (n / 2 ^ k)
  have h3 := bl_pos h0
  have e : k + bl (n / 2 ^ k) = (k + (bl (n / 2 ^ k) - 1)) + 1 := by omega
  rw [e]
  apply bl_unique
  · rw [Nat.pow_add]
    have := (Nat.le_div_iff_mul_le hp).1 h1
    rw [Nat.mul_comm]; exact this
  · have := (Nat.div_lt_iff_lt_mul hp).1 h2
    rw [show k + (bl (n / 2 ^ k) - 1) + 1 = bl (n / 2 ^ k) + k by omega, Nat.pow_add]
    exact this
theorem bl_step {n : Nat} (h : n ≠ 0) : bl n = bl (n / 2) + 1 := by
  by_cases h1 : n = 1
  · subst h1; rfl
  · have := bl_shift (n := n) (k := 1) (by omega)
    simp at this; omega
def tab8 : ByteArray := ⟨#[0, 1, 2, 2, 3, 3, 3, 3, 4, 4, 4, 4, 4, 4, 4, 4, 5, 5, 5, 5, 5, 5, 5, 5, 5, 5, 5, 5, 5, 5, 5, 5, 6, 6, 6, 6, 6, 6, 6, 6, 6, 6, 6, 6, 6, 6, 6, 6, 6, 6, 6, 6, 6, 6, 6, 6, 6, 6, 6, 6, 6, 6, 6, 6, 7, 7, 7, 7, 7, 7, 7, 7, 7, 7, 7, 7, 7, 7, 7, 7, 7, 7, 7, 7, 7, 7, 7, 7, 7, 7, 7, 7, 7, 7, 7, 7, 7, 7, 7, 7, 7, 7, 7, 7, 7, 7, 7, 7, 7, 7, 7, 7, 7, 7, 7, 7, 7, 7, 7, 7, 7, 7, 7, 7, 7, 7, 7, 7, 8, 8, 8, 8, 8, 8, 8, 8, 8, 8, 8, 8, 8, 8, 8, 8, 8, 8, 8, 8, 8, 8, 8, 8, 8, 8, 8, 8, 8, 8, 8, 8, 8, 8, 8, 8, 8, 8, 8, 8, 8, 8, 8, 8, 8, 8, 8, 8, 8, 8, 8, 8, 8, 8, 8, 8, 8, 8, 8, 8, 8, 8, 8, 8, 8, 8, 8, 8, 8, 8, 8, 8, 8, 8, 8, 8, 8, 8, 8, 8, 8, 8, 8, 8, 8, 8, 8, 8, 8, 8, 8, 8, 8, 8, 8, 8, 8, 8, 8, 8, 8, 8, 8, 8, 8, 8, 8, 8, 8, 8, 8, 8, 8, 8, 8, 8, 8, 8, 8, 8, 8, 8, 8, 8, 8, 8, 8, 8]⟩
theorem tab8_eq : (List.range 256).all (fun i => bt tab8 (i : Int) == (bl i : Int)) = true := by decide +kernel
theorem bt8 {t : ByteArray} {n : Nat} (h : n < 256) (ht : t = tab8) : bt t (n : Int) = (bl n : Int) := by
  subst ht
  have := List.all_eq_true.1 tab8_eq n (List.mem_range.2 h)
  exact eq_of_beq this
theorem bl_small {n : Nat} (h : n < 256) : bl n ≤ 8 := bl_le_of_lt h
theorem len8_size : tx_c182c703.size = 256 := by decide +kernel
theorem len32_j1 {n : Nat} (h : n < 256) {m : Int} (hm : 0 ≤ m ∧ m ≤ 64) : Ev (fun k => bits_Len32.j1 k (n : Int) m) (m + (bl n : Nat)) := by
  refine ev_step ?_
  simp only [bits_Len32.j1]
  have e : (n : Int) % 256 = n := by omega
  have l := bl_small h
  rw [e, len8_size]
  (repeat (first | (with_reducible refine ev_pos ?_ ?_; focus (first | omega | assumption | (simp; done) | (simp; omega))) | (with_reducible refine ev_neg ?_ ?_; focus (first | omega | assumption | (simp; done) | (simp; omega)))))
  rw [bt8 h (by rfl), w64n (n := ((bl n : Nat) : Int)) (by omega) (by omega), w64n (by omega) (by omega)]
  exact Ev.now _
theorem len32_j0 {n : Nat} (h : n < 65536) {m : Int} (hm : 0 ≤ m ∧ m ≤ 32) : Ev (fun k => bits_Len32.j0 k (n : Int) m) (m + (bl n : Nat)) := by
  refine ev_step ?_
  simp only [bits_Len32.j0]
  by_cases c : n ≥ 256
  · (repeat (first | (with_reducible refine ev_pos ?_ ?_; focus (first | omega | assumption | (simp; done) | (simp; omega))) | (with_reducible refine ev_neg ?_ ?_; focus (first | omega | assumption | (simp; done) | (simp; omega)))))
    have e2 : bl n = 8 + bl (n / 256) := bl_shift (k := 8) c
    have := len32_j1 (n := n / 256) (by omega) (m := m + 8) (by omega)
    rw [w64n (by omega) (by omega), show (n : Int) / 256 = ((n / 256 : Nat) : Int) by omega]
    exact ev_eq this (by rw [e2]; omega)
  · (repeat (first | (with_reducible refine ev_pos ?_ ?_; focus (first | omega | assumption | (simp; done) | (simp; omega))) | (with_reducible refine ev_neg ?_ ?_; focus (first | omega | assumption | (simp; done) | (simp; omega)))))
    exact len32_j1 (by omega) (by omega)
theorem len32_ev {x : Int} (h : 0 ≤ x ∧ x < 4294967296) : Ev (fun k => bits_Len32.f k x) ((bl x.toNat : Nat) : Int) := by
  obtain ⟨n, rfl⟩ := Int.eq_ofNat_of_zero_le h.1
  unfold bits_Len32.f
  rw [Int.toNat_natCast]
  by_cases c : n ≥ 65536
  · (repeat (first | (with_reducible refine ev_pos ?_ ?_; focus (first | omega | assumption | (simp; done) | (simp; omega))) | (with_reducible refine ev_neg ?_ ?_; focus (first | omega | assumption | (simp; done) | (simp; omega)))))
    have e1 : bl n = 16 + bl (n / 65536) := bl_shift (k := 16) c
    rw [show (n : Int) / 65536 = ((n / 65536 : Nat) : Int) by omega]
    exact ev_eq (len32_j0 (by omega) (by omega)) (by rw [e1]; omega)
  · (repeat (first | (with_reducible refine ev_pos ?_ ?_; focus (first | omega | assumption | (simp; done) | (simp; omega))) | (with_reducible refine ev_neg ?_ ?_; focus (first | omega | assumption | (simp; done) | (simp; omega)))))
    exact ev_eq (len32_j0 (by omega) (by omega)) (by omega)
/-! ### the references' length -/
theorem rlen_l0 : ∀ (n : Nat) (m : Int), 0 ≤ m ∧ m + (bl n : Nat) < 4611686018427387904 → n < 4294967296 → Ev (fun k => cutplaneref01_Len.l0 k m n) (m + (bl n : Nat)) := by
  intro n
  induction n using Nat.strongRecOn with
  | _ n ih =>
    intro m hm hn
    refine ev_step ?_
    simp only [cutplaneref01_Len.l0]
    by_cases c : n = 0
    · subst c
      (repeat (first | (with_reducible refine ev_pos ?_ ?_; focus (first | omega | assumption | (simp; done) | (simp; omega))) | (with_reducible refine ev_neg ?_ ?_; focus (first | omega | assumption | (simp; done) | (simp; omega)))))
      exact ev_eq (Ev.now _) (by simp [bl_zero])
    · (repeat (first | (with_reducible refine ev_pos ?_ ?_; focus (first | omega | assumption | (simp; done) | (simp; omega))) | (with_reducible refine ev_neg ?_ ?_; focus (first | omega | assumption | (simp; done) | (simp; omega)))))
      have e : (n : Int) / 2 = ((n / 2 : Nat) : Int) := by omega
      have hb := bl_step c
      rw [e, w64n (by omega) (by omega)]
      refine ev_eq (ih (n / 2) (by omega) (m + 1) (by omega) (by omega)) ?_
      omega
/-- the bits of a list: its highest digit's, and 32 for each other one -/
theorem bl_V {l : List Int} (h : Nm l) (h0 : l ≠ []) : bl (V l) = 32 * (l.length - 1) + bl (l.getD (l.length - 1) 0).toNat := by
  rcases List.eq_nil_or_concat l with rfl | ⟨a, d, rfl⟩
  · exact absurd rfl h0
  rw [List.concat_eq_append] at h ⊢
  have hd := h.dg d (by simp)
  have hn := Nm_last h
  have e : (a ++ [d]).getD ((a ++ [d]).length - 1) 0 = d := by simp
  rw [e]
  have hl : (a ++ [d]).length - 1 = a.length := by simp
  rw [hl, V_append]
  simp only [V_cons, V_nil, Nat.mul_zero, Nat.add_zero]
  have hv := V_lt h.dg.left
  have hp : (4294967296 : Nat) ^ a.length = 2 ^ (32 * a.length) := by rw [Nat.pow_mul]
  rw [hp] at hv ⊢
  have hpos : 0 < 2 ^ (32 * a.length) := Nat.pow_pos (by omega)
  have hd1 : 2 ^ (32 * a.length) * 1 ≤ 2 ^ (32 * a.length) * d.toNat := Nat.mul_le_mul_left _ (by omega)
  rw [bl_shift (n := V a + 2 ^ (32 * a.length) * d.toNat) (k := 32 * a.length) (by omega)]
  rw [Nat.add_mul_div_left _ _ hpos, Nat.div_eq_of_lt hv, Nat.zero_add]
theorem ref_Len_ev {l : List Int} (h : Nm l) (hb : l.length < 1000000000) : Ev (fun k => cutplaneref01_Len.f k l) ((bl (V l) : Nat) : Int) := by
  unfold cutplaneref01_Len.f
  by_cases c : l.length = 0
  · have : l = [] := List.eq_nil_of_length_eq_zero c
    subst this
    (repeat (first | (with_reducible refine ev_pos ?_ ?_; focus (first | omega | assumption | (simp; done) | (simp; omega))) | (with_reducible refine ev_neg ?_ ?_; focus (first | omega | assumption | (simp; done) | (simp; omega))))); exact Ev.now _
  · (repeat (first | (with_reducible refine ev_pos ?_ ?_; focus (first | omega | assumption | (simp; done) | (simp; omega))) | (with_reducible refine ev_neg ?_ ?_; focus (first | omega | assumption | (simp; done) | (simp; omega)))))
    have e : wrap64 ((l.length : Int) - 1) = ((l.length - 1 : Nat) : Int) := by unfold wrap64; omega
    rw [e]
    clear e
    (repeat (first | (with_reducible refine ev_pos ?_ ?_; focus (first | omega | assumption | (simp; done) | (simp; omega))) | (with_reducible refine ev_neg ?_ ?_; focus (first | omega | assumption | (simp; done) | (simp; omega)))))
    have hd := h.dg.getD (l.length - 1)
    rw [rdn, w64n (by omega) (by omega)]
    generalize hx : l.getD (l.length - 1) 0 = x at hd
    obtain ⟨n, rfl⟩ := Int.eq_ofNat_of_zero_le hd.1
    have hbn : bl n ≤ 32 := bl_le_of_lt (by omega)
    refine ev_eq (rlen_l0 n _ (by omega) (by omega)) ?_
    have hne : l ≠ [] := fun e => c (by rw [e]; rfl)
    have hm := Nm_iff h.dg |>.1 h
    rw [bl_V h hne, hx]
    simp
end Go.Proofs.YtbcjdlljmhfhdaaGreatDoor.Eng.K

/- The first layer's plain functions: times a power of two, bits. -/
set_option linter.unusedVariables false
set_option linter.unusedSimpArgs false
namespace Go.Proofs.YtbcjdlljmhfhdaaGreatDoor.Eng.K
open Go.RowKit

/-! ### one digit -/
theorem pw {s : Nat} (h : s ≤ 32) : 2 ^ s * 2 ^ (32 - s) = 4294967296 := by
  rw [← Nat.pow_add]; have : s + (32 - s) = 32 := by omega
  rw [this]
theorem pw_pos (s : Nat) : 0 < 2 ^ s := Nat.pow_pos (by omega)
theorem shift_nat {X P Q c : Nat} (hP : 0 < P) (hc : c < P) : (X * P + c) / (P * Q) = X / Q ∧ (X * P + c) % (P * Q) = P * (X % Q) + c := by
  have h1 : (X * P + c) / P = X := by rw [Nat.mul_comm, Nat.mul_add_div hP, Nat.div_eq_of_lt hc, Nat.add_zero]
  have h2 : (X * P + c) % P = c := by rw [Nat.mul_comm, Nat.mul_add_mod, Nat.mod_eq_of_lt hc]
  exact ⟨by rw [← Nat.div_div_eq_div_mul, h1], by rw [Nat.mod_mul, h1, h2, Nat.add_comm]⟩
theorem pow_cast (s : Nat) : ((2 : Int) ^ s) = ((2 ^ s : Nat) : Int) := by simp
theorem shl32 (X s : Nat) (hs : s < 32) : shl .u32 (X : Int) (s : Int) = ((X * 2 ^ s % 4294967296 : Nat) : Int) := by
  unfold shl
  rw [Int.toNat_natCast, Nat.min_eq_left (by simp [IntKind.bits]; omega), pow_cast, ← Int.natCast_mul]
  simp [IntKind.wrap, IntKind.bits, IntKind.signed]
theorem shl64 (X s : Nat) (hs : s ≤ 32) (hX : X < 4294967296) : shl .u64 (X : Int) (s : Int) = ((X * 2 ^ s : Nat) : Int) := by
  unfold shl
  rw [Int.toNat_natCast, Nat.min_eq_left (by simp [IntKind.bits]; omega), pow_cast, ← Int.natCast_mul]
  have h1 : 2 ^ s ≤ 2 ^ 32 := Nat.pow_le_pow_right (by omega) hs
  have h2 : X * 2 ^ s ≤ 4294967295 * 2 ^ 32 := Nat.mul_le_mul (by omega) h1
  exact u64 (by omega) (by omega)
theorem shr_n {k : IntKind} (X s : Nat) (hs : s ≤ k.bits) : shr k (X : Int) (s : Int) = ((X / 2 ^ s : Nat) : Int) := by
  unfold shr
  rw [Int.toNat_natCast, Nat.min_eq_left hs, pow_cast, ← Int.natCast_ediv]
theorem wrap_u64n (X : Nat) (hX : X < 4294967296) : IntKind.u64.wrap (X : Int) = (X : Int) := u64 (by omega) (by omega)
theorem w32s {s : Nat} (hs : s ≤ 32) : wrap64 (32 - (s : Int)) = ((32 - s : Nat) : Int) := by unfold wrap64; omega
theorem div_lt_pw {X s : Nat} (hs : s ≤ 32) (hX : X < 4294967296) : X / 2 ^ s < 2 ^ (32 - s) := by
  rw [Nat.div_lt_iff_lt_mul (pw_pos _), Nat.mul_comm, pw hs]; exact hX
/-- up: the digit that stays -/
theorem up_digit (X s c : Nat) (hs : s < 32) (hX : X < 4294967296) (hc : c < 2 ^ s) : Go.bits .or .u32 (shl .u32 (X : Int) (s : Int)) (c : Int) = (((X * 2 ^ s + c) % 4294967296 : Nat) : Int) := by
  have h1 := (shift_nat (X := X) (Q := 2 ^ (32 - s)) (pw_pos s) hc).2
  have h0 := (shift_nat (X := X) (Q := 2 ^ (32 - s)) (c := 0) (pw_pos s) (pw_pos s)).2
  have hle : 2 ^ s ≤ 2 ^ 31 := Nat.pow_le_pow_right (by omega) (by omega)
  rw [pw (by omega)] at h1 h0
  rw [shl32 _ _ hs, u32_or_nat _ _ (by omega) (by omega), h1]
  rw [Nat.add_zero, Nat.add_zero] at h0
  rw [h0, ← Nat.two_pow_add_eq_or_of_lt hc]
theorem up_carry (X s c : Nat) (hs : s < 32) (hX : X < 4294967296) (hc : c < 2 ^ s) : (shr .u64 (IntKind.u64.wrap (X : Int)) (wrap64 (32 - (s : Int)))) % 4294967296 = (((X * 2 ^ s + c) / 4294967296 : Nat) : Int) := by
  have h1 := (shift_nat (X := X) (Q := 2 ^ (32 - s)) (pw_pos s) hc).1
  rw [pw (by omega)] at h1
  rw [wrap_u64n _ hX, w32s (by omega), shr_n _ _ (by simp [IntKind.bits]; omega), h1]
  have := div_lt_pw (s := 32 - s) (by omega) hX
  have h3 : X / 2 ^ (32 - s) ≤ X := Nat.div_le_self _ _
  omega
theorem up_carry_lt (X s c : Nat) (hs : s < 32) (hX : X < 4294967296) (hc : c < 2 ^ s) : (X * 2 ^ s + c) / 4294967296 < 2 ^ s := by
  have h1 := (shift_nat (X := X) (Q := 2 ^ (32 - s)) (pw_pos s) hc).1
  rw [pw (by omega)] at h1
  rw [h1]
  have := div_lt_pw (s := 32 - s) (by omega) hX
  have e : 32 - (32 - s) = s := by omega
  rwa [e] at this
/-! ### times 2^n -/
def upRec (P : Nat) : List Int → Nat → List Int
  | [], c => [(c : Int)]
  | d :: l, c => (((d.toNat * P + c) % 4294967296 : Nat) : Int) :: upRec P l ((d.toNat * P + c) / 4294967296)
theorem upRec_V {s : Nat} (hs : s < 32) : ∀ (l : List Int) (c : Nat), Dg l → c < 2 ^ s → V (upRec (2 ^ s) l c) = V l * 2 ^ s + c ∧ Dg (upRec (2 ^ s) l c)
  | [], c, _, hc => by
    have hle : 2 ^ s ≤ 2 ^ 31 := Nat.pow_le_pow_right (by omega) (by omega)
    simp only [upRec, V_cons, V_nil]
    exact ⟨by omega, Dg.cons (by omega) (by omega) Dg.nil⟩
  | d :: l, c, hg, hc => by
    have hd := hg.head
    have hX : d.toNat < 4294967296 := by omega
    have ih := upRec_V hs l _ hg.tail (up_carry_lt d.toNat s c hs hX hc)
    simp only [upRec, V_cons, ih.1]
    refine ⟨?_, Dg.cons (by omega) (by omega) ih.2⟩
    generalize hm : d.toNat * 2 ^ s + c = m
    rw [Nat.add_mul, Nat.mul_assoc]
    generalize V l * 2 ^ s = z
    omega
theorem nn {i : Nat} : 0 ≤ (i : Int) := Int.natCast_nonneg i
theorem up_l0 (A : List Int) (hA : Dg A) (hl : A.length < 1000000000) {s : Nat} (hs : s < 32) : ∀ (a done pa : List Int) (c : Nat), A = pa ++ a → c < 2 ^ s → Dg done → done.length + a.length < 2000000000 →
    Ev (fun k => nat_up.l0 k done s c A A.length pa.length) (D (V (done ++ upRec (2 ^ s) a c)))
  | [], done, pa, c, he, hc, hg, hb => by
    have hlen : A.length = pa.length := by rw [he]; simp
    have hle : 2 ^ s ≤ 2 ^ 31 := Nat.pow_le_pow_right (by omega) (by omega)
    refine ev_step ?_
    simp only [nat_up.l0]
    (repeat (first | (with_reducible refine ev_pos ?_ ?_; focus (first | omega | assumption | (simp; done) | (simp; omega))) | (with_reducible refine ev_neg ?_ ?_; focus (first | omega | assumption | (simp; done) | (simp; omega)))))
    exact Ev.bind (nat_trim_ev (hg.app (Dg.cons (by omega) (by omega) Dg.nil)) (by simp at hb ⊢; omega)) (Ev.now _)
  | d :: a, done, pa, c, he, hc, hg, hb => by
    have hlen : A.length = pa.length + 1 + a.length := by rw [he]; simp; omega
    have hd : 0 ≤ d ∧ d < 4294967296 := by rw [he] at hA; exact hA.right.head
    obtain ⟨X, rfl⟩ := Int.eq_ofNat_of_zero_le hd.1
    have hX : X < 4294967296 := by omega
    have h1 : rd A (pa.length : Int) = (X : Int) := by rw [he]; exact rd_app rfl
    refine ev_step ?_
    simp only [nat_up.l0, h1, w64s (n := pa.length) (by omega), up_digit X s c hs hX hc, up_carry X s c hs hX hc]
    have w32 : wrap64 (32 - (s : Int)) = 32 - (s : Int) := by unfold wrap64; omega
    (repeat (first | (with_reducible refine ev_pos ?_ ?_; focus (first | omega | assumption | (simp; done) | (simp; omega))) | (with_reducible refine ev_neg ?_ ?_; focus (first | omega | assumption | (simp; done) | (simp; omega)))))
    have := up_l0 A hA hl hs a (done ++ [(((X * 2 ^ s + c) % 4294967296 : Nat) : Int)]) (pa ++ [(X : Int)]) ((X * 2 ^ s + c) / 4294967296) (by rw [he]; simp) (up_carry_lt X s c hs hX hc) (hg.app (Dg.cons (by omega) (by omega) Dg.nil)) (by simp at hb ⊢; omega)
    rw [List.length_append, List.length_singleton] at this
    refine ev_eq this ?_
    simp [upRec]
theorem t32 {n : Nat} (h : n < 4611686018427387904) : wrap64 (Int.tdiv (n : Int) 32) = ((n / 32 : Nat) : Int) := by
  rw [Int.tdiv_eq_ediv_of_nonneg (by omega)]; unfold wrap64; omega
theorem m32 (n : Nat) : Int.tmod (n : Int) 32 = ((n % 32 : Nat) : Int) := by
  rw [Int.tmod_eq_emod_of_nonneg (by omega)]; omega
theorem pw_split (n : Nat) : 2 ^ n = 4294967296 ^ (n / 32) * 2 ^ (n % 32) := by
  have h : (4294967296 : Nat) = 2 ^ 32 := by decide
  rw [h, ← Nat.pow_mul, ← Nat.pow_add]; congr 1; omega
theorem up_V {a : List Int} (ha : Dg a) (n : Nat) : V (List.replicate (n / 32) 0 ++ upRec (2 ^ (n % 32)) a 0) = V a * 2 ^ n := by
  have h := (upRec_V (s := n % 32) (by omega) a 0 ha (pw_pos _)).1
  rw [V_append, V_zeros, List.length_replicate, h, Nat.zero_add, Nat.add_zero, pw_split n, Nat.mul_left_comm]
theorem nat_up_ev {a : List Int} (ha : Dg a) (la : a.length < 1000000000) (n : Nat) (hn : n < 1000000000) : Ev (fun k => nat_up.f k a n) (D (V a * 2 ^ n)) := by
  unfold nat_up.f
  have e1 : wrap64 (wrap64 (((n / 32 : Nat) : Int) + (a.length : Int)) + 1) = ((n / 32 + a.length + 1 : Nat) : Int) := by unfold wrap64; omega
  simp only [t32 (n := n) (by omega), m32, e1]
  clear e1
  by_cases h0 : a = []
  · subst h0
    (repeat (first | (with_reducible refine ev_pos ?_ ?_; focus (first | omega | assumption | (simp; done) | (simp; omega))) | (with_reducible refine ev_neg ?_ ?_; focus (first | omega | assumption | (simp; done) | (simp; omega)))))
    exact ev_eq (Ev.now _) (by simp [D_zero])
  · have : 0 < a.length := List.length_pos_iff.2 h0
    (repeat (first | (with_reducible refine ev_pos ?_ ?_; focus (first | omega | assumption | (simp; done) | (simp; omega))) | (with_reducible refine ev_neg ?_ ?_; focus (first | omega | assumption | (simp; done) | (simp; omega)))))
    have h := up_l0 a ha la (s := n % 32) (by omega) a (List.replicate (n / 32) 0) [] 0 rfl (pw_pos _) (Dg.zeros _) (by simp; omega)
    rw [up_V ha] at h
    simp only [Int.toNat_natCast]
    simpa using h
end Go.Proofs.YtbcjdlljmhfhdaaGreatDoor.Eng.K

/- The first layer's plain functions: a power of two off, bits. -/
set_option linter.unusedVariables false
set_option linter.unusedSimpArgs false
namespace Go.Proofs.YtbcjdlljmhfhdaaGreatDoor.Eng.K
open Go.RowKit

theorem pw' {s : Nat} (h : s ≤ 32) : 2 ^ (32 - s) * 2 ^ s = 4294967296 := by rw [Nat.mul_comm]; exact pw h
theorem V_drop {l : List Int} (h : Dg l) (q : Nat) : V (l.drop q) = V l / 4294967296 ^ q := by
  by_cases hq : q ≤ l.length
  · have e : V l = V (l.take q) + 4294967296 ^ q * V (l.drop q) := by
      conv => lhs; rw [← List.take_append_drop q l, V_append, List.length_take, Nat.min_eq_left hq]
    have hlt : V (l.take q) < 4294967296 ^ q := by
      have := V_lt (h.take q); rwa [List.length_take, Nat.min_eq_left hq] at this
    rw [e, Nat.add_mul_div_left _ _ (Nat.pow_pos (by omega)), Nat.div_eq_of_lt hlt, Nat.zero_add]
  · rw [List.drop_eq_nil_of_le (by omega), V_nil, Nat.div_eq_of_lt]
    exact Nat.lt_of_lt_of_le (V_lt h) (Nat.pow_le_pow_right (by omega) (by omega))
theorem lt_cast {m : Nat} (h : m < 4294967296) : (m : Int) < 4294967296 := by omega
theorem down_shl (Y s : Nat) (hs : s < 32) (hY : Y < 4294967296) : (shl .u64 (IntKind.u64.wrap (Y : Int)) (wrap64 (32 - (s : Int)))) % 4294967296 = ((2 ^ (32 - s) * (Y % 2 ^ s) : Nat) : Int) := by
  rw [wrap_u64n _ hY, w32s (by omega), shl64 _ _ (by omega) hY]
  have h := (shift_nat (X := Y) (P := 2 ^ (32 - s)) (Q := 2 ^ s) (c := 0) (pw_pos _) (pw_pos _)).2
  rw [pw' (by omega), Nat.add_zero, Nat.add_zero] at h
  rw [← h]; omega
theorem down_lt (X Y s : Nat) (hs : s < 32) (hX : X < 4294967296) : X / 2 ^ s + 2 ^ (32 - s) * (Y % 2 ^ s) < 4294967296 := by
  have h1 := div_lt_pw (s := s) (by omega) hX
  have h2 : Y % 2 ^ s + 1 ≤ 2 ^ s := Nat.mod_lt _ (pw_pos _)
  have h3 := Nat.mul_le_mul_left (2 ^ (32 - s)) h2
  rw [pw' (by omega), Nat.mul_add] at h3
  omega
theorem down_digit (X Y s : Nat) (hs : s < 32) (hX : X < 4294967296) (hY : Y < 4294967296) : Go.bits .or .u32 ((X / 2 ^ s : Nat) : Int) ((shl .u64 (IntKind.u64.wrap (Y : Int)) (wrap64 (32 - (s : Int)))) % 4294967296) = ((X / 2 ^ s + 2 ^ (32 - s) * (Y % 2 ^ s) : Nat) : Int) := by
  have hl := down_lt X Y s hs hX
  rw [down_shl Y s hs hY, u32_or_nat _ _ (Nat.lt_of_le_of_lt (Nat.le_add_right _ _) hl) (Nat.lt_of_le_of_lt (Nat.le_add_left _ _) hl), Nat.or_comm, ← Nat.two_pow_add_eq_or_of_lt (div_lt_pw (by omega) hX), Nat.add_comm]
theorem rdown_digit (X Y s : Nat) (hs : s < 32) (hX : X < 4294967296) (hY : Y < 4294967296) : (Go.bits .or .u64 (shr .u64 (IntKind.u64.wrap (X : Int)) (s : Int)) (shl .u64 (IntKind.u64.wrap (Y : Int)) (wrap64 (32 - (s : Int))))) % 4294967296 = ((X / 2 ^ s + 2 ^ (32 - s) * (Y % 2 ^ s) : Nat) : Int) := by
  have hl := div_lt_pw (s := s) (by omega) hX
  have hle : 2 ^ (32 - s) ≤ 2 ^ 32 := Nat.pow_le_pow_right (by omega) (by omega)
  have h2 : Y * 2 ^ (32 - s) ≤ 4294967295 * 2 ^ 32 := Nat.mul_le_mul (by omega) hle
  have hX2 : X / 2 ^ s ≤ X := Nat.div_le_self _ _
  rw [wrap_u64n _ hX, wrap_u64n _ hY, w32s (by omega), shl64 _ _ (by omega) hY, shr_n _ _ (by simp [IntKind.bits]; omega), u64_or_nat _ _ (by omega) (by omega), Nat.or_comm, Nat.mul_comm Y, ← Nat.two_pow_add_eq_or_of_lt hl, Nat.mul_comm _ Y]
  have h := (shift_nat (X := Y) (P := 2 ^ (32 - s)) (Q := 2 ^ s) (c := X / 2 ^ s) (pw_pos _) hl).2
  rw [pw' (by omega)] at h
  rw [Nat.add_comm (X / 2 ^ s), ← h]; omega

def downRec (s : Nat) : List Int → List Int
  | [] => []
  | d :: l => ((d.toNat / 2 ^ s + 2 ^ (32 - s) * ((l.headD 0).toNat % 2 ^ s) : Nat) : Int) :: downRec s l
theorem V_mod_pw {l : List Int} {s : Nat} (hs : s ≤ 32) : V l % 2 ^ s = (l.headD 0).toNat % 2 ^ s := by
  cases l with
  | nil => simp
  | cons d l =>
    have h := pw (s := s) hs
    simp only [V_cons, List.headD_cons]
    rw [← h, Nat.mul_assoc, Nat.add_mul_mod_self_left]
theorem downRec_V {s : Nat} (hs : s < 32) : ∀ (l : List Int), Dg l → V (downRec s l) = V l / 2 ^ s ∧ Dg (downRec s l)
  | [], _ => by simp [downRec, Dg.nil]
  | d :: l, hg => by
    have hd := hg.head
    have ih := downRec_V hs l hg.tail
    have hl := down_lt d.toNat (l.headD 0).toNat s hs (by omega)
    simp only [downRec, V_cons, ih.1]
    refine ⟨?_, Dg.cons nn (lt_cast hl) ih.2⟩
    rw [← V_mod_pw (l := l) (by omega), Int.toNat_natCast]
    have h := pw (s := s) (by omega)
    have h' := pw' (s := s) (by omega)
    have e1 : (d.toNat + 4294967296 * V l) / 2 ^ s = d.toNat / 2 ^ s + 2 ^ (32 - s) * V l := by
      rw [← h, Nat.mul_assoc, Nat.add_mul_div_left _ _ (pw_pos _)]
    have e2 : 2 ^ (32 - s) * V l = 2 ^ (32 - s) * (V l % 2 ^ s) + 4294967296 * (V l / 2 ^ s) := by
      rw [← h', Nat.mul_assoc, ← Nat.mul_add, Nat.mod_add_div]
    rw [e1, e2, Nat.add_assoc]
theorem down_V {a : List Int} (ha : Dg a) (n : Nat) : V (downRec (n % 32) (a.drop (n / 32))) = V a / 2 ^ n := by
  rw [(downRec_V (by omega) _ (ha.drop _)).1, V_drop ha, Nat.div_div_eq_div_mul, ← pw_split]

theorem down_l0 (A : List Int) (hA : Dg A) (hl : A.length < 1000000000) {s : Nat} (hs : s < 32) : ∀ (a done pa : List Int), A = pa ++ a → done.length = pa.length → Dg done →
    Ev (fun k => nat_down.l0 k A s (done ++ List.replicate a.length 0) A A.length pa.length) (D (V (done ++ downRec s a)))
  | [], done, pa, he, hd, hg => by
    have hlen : A.length = pa.length := by rw [he]; simp
    refine ev_step ?_
    simp only [nat_down.l0]
    (repeat (first | (with_reducible refine ev_pos ?_ ?_; focus (first | omega | assumption | (simp; done) | (simp; omega))) | (with_reducible refine ev_neg ?_ ?_; focus (first | omega | assumption | (simp; done) | (simp; omega)))))
    simp only [List.length_nil, List.replicate_zero, downRec]
    exact Ev.bind (nat_trim_ev (l := done ++ []) (by simpa using hg) (by simp; omega)) (Ev.now _)
  | d :: a, done, pa, he, hd, hg => by
    have hlen : A.length = pa.length + 1 + a.length := by rw [he]; simp; omega
    have hdd : 0 ≤ d ∧ d < 4294967296 := by rw [he] at hA; exact hA.right.head
    obtain ⟨X, rfl⟩ := Int.eq_ofNat_of_zero_le hdd.1
    have hX : X < 4294967296 := by omega
    have h1 : rd A (pa.length : Int) = (X : Int) := by rw [he]; exact rd_app rfl
    have hg2 : Dg (a) := by rw [he] at hA; exact hA.right.tail
    have hy := hg2.headD
    have ih := down_l0 A hA hl hs a (done ++ [((X / 2 ^ s + 2 ^ (32 - s) * ((a.headD 0).toNat % 2 ^ s) : Nat) : Int)]) (pa ++ [(X : Int)]) (by rw [he]; simp) (by simp [hd])
      (hg.app (Dg.cons nn (lt_cast (down_lt X (a.headD 0).toNat s hs hX)) Dg.nil))
    rw [@List.length_append _ pa, List.length_singleton] at ih
    refine ev_step ?_
    have hset : (done ++ List.replicate ((X : Int) :: a).length 0).set ((pa.length : Int)).toNat ((X / 2 ^ s : Nat) : Int) = (done ++ [((X / 2 ^ s : Nat) : Int)]) ++ List.replicate a.length 0 := by
      rw [List.length_cons, List.replicate_succ, set_app (by omega)]
    simp only [nat_down.l0, h1, w64s (n := pa.length) (by omega), shr_n (k := .u32) X s (by simp [IntKind.bits]; omega), hset, Option.bind_some]
    have w32 : wrap64 (32 - (s : Int)) = 32 - (s : Int) := by unfold wrap64; omega
    (repeat (first | (with_reducible refine ev_pos ?_ ?_; focus (first | omega | assumption | (simp; done) | (simp; omega))) | (with_reducible refine ev_neg ?_ ?_; focus (first | omega | assumption | (simp; done) | (simp; omega)))))
    by_cases hn : a = []
    · subst hn
      simp only [List.length_nil, Nat.add_zero] at hlen
      (repeat (first | (with_reducible refine ev_pos ?_ ?_; focus (first | omega | assumption | (simp; done) | (simp; omega))) | (with_reducible refine ev_neg ?_ ?_; focus (first | omega | assumption | (simp; done) | (simp; omega)))))
      refine ev_eq (by simpa [downRec] using ih) ?_
      simp [downRec]
    · obtain ⟨y, a', rfl⟩ := List.exists_cons_of_ne_nil hn
      obtain ⟨Y, rfl⟩ := Int.eq_ofNat_of_zero_le hy.1
      simp only [List.headD_cons] at hy ih
      have hlen' := hlen
      simp only [List.length_cons] at hlen'
      have h2 : rd A ((pa.length + 1 : Nat) : Int) = (Y : Int) := by rw [he, show pa ++ (X : Int) :: (Y : Int) :: a' = (pa ++ [(X : Int)]) ++ (Y : Int) :: a' by simp]; exact rd_app (by simp)
      have h3 : rd (done ++ [((X / 2 ^ s : Nat) : Int)] ++ List.replicate ((Y : Int) :: a').length 0) (pa.length : Int) = ((X / 2 ^ s : Nat) : Int) := by rw [List.append_assoc, List.singleton_append]; exact rd_app (by omega)
      have hset2 : (done ++ [((X / 2 ^ s : Nat) : Int)] ++ List.replicate ((Y : Int) :: a').length 0).set ((pa.length : Int)).toNat ((X / 2 ^ s + 2 ^ (32 - s) * (Y % 2 ^ s) : Nat) : Int) = done ++ [((X / 2 ^ s + 2 ^ (32 - s) * (Y % 2 ^ s) : Nat) : Int)] ++ List.replicate ((Y : Int) :: a').length 0 := by
        rw [List.append_assoc, List.singleton_append, set_app (by omega)]
      simp only [h2, h3, down_digit X Y s hs hX (by omega), hset2]
      (repeat (first | (with_reducible refine ev_pos ?_ ?_; focus (first | omega | assumption | (simp; done) | (simp; omega))) | (with_reducible refine ev_neg ?_ ?_; focus (first | omega | assumption | (simp; done) | (simp; omega)))))
      rw [Int.toNat_natCast] at ih
      refine ev_eq ih ?_
      simp [downRec]
theorem nat_down_ev {a : List Int} (ha : Dg a) (la : a.length < 1000000000) (n : Nat) (hn : n < 100000000000) : Ev (fun k => nat_down.f k a n) (D (V a / 2 ^ n)) := by
  unfold nat_down.f
  simp only [t32 (n := n) (by omega), m32]
  by_cases h : n / 32 ≥ a.length
  · (repeat (first | (with_reducible refine ev_pos ?_ ?_; focus (first | omega | assumption | (simp; done) | (simp; omega))) | (with_reducible refine ev_neg ?_ ?_; focus (first | omega | assumption | (simp; done) | (simp; omega)))))
    have : V a / 2 ^ n = 0 := by
      rw [pw_split, ← Nat.div_div_eq_div_mul, ← V_drop ha, List.drop_eq_nil_of_le h]; simp
    rw [this, D_zero]; exact Ev.now _
  · (repeat (first | (with_reducible refine ev_pos ?_ ?_; focus (first | omega | assumption | (simp; done) | (simp; omega))) | (with_reducible refine ev_neg ?_ ?_; focus (first | omega | assumption | (simp; done) | (simp; omega)))))
    have h := down_l0 (a.drop (n / 32)) (ha.drop _) (by simp; omega) (s := n % 32) (by omega) (a.drop (n / 32)) [] [] rfl rfl Dg.nil
    simp only [List.nil_append, down_V ha] at h
    simp only [Int.toNat_natCast]
    simpa using h

/-! ### bits -/
theorem ref_Bit_eq {l : List Int} (h : Dg l) (hl : l.length < 1000000000) (i : Nat) (hi : i < 4611686018427387904) : cutplaneref01_Bit.f l i = some ((V l / 2 ^ i % 2 : Nat) : Int) := by
  unfold cutplaneref01_Bit.f
  simp only [t32 hi, m32]
  rw [if_neg (by omega)]
  by_cases hq : i / 32 ≥ l.length
  · rw [if_pos (by omega)]
    have : V l / 2 ^ i = 0 := by
      rw [pw_split, ← Nat.div_div_eq_div_mul, ← V_drop h, List.drop_eq_nil_of_le hq]; simp
    rw [this]; rfl
  · rw [if_neg (by omega), if_pos nn, if_pos (by omega), if_pos nn]
    rw [rdn]
    have hx := h.getD (i / 32)
    obtain ⟨X, hX⟩ := Int.eq_ofNat_of_zero_le hx.1
    have hX2 : X < 4294967296 := by omega
    rw [hX, shr_n _ _ (by simp [IntKind.bits]; omega)]
    have hle : X / 2 ^ (i % 32) ≤ X := Nat.div_le_self _ _
    have e := u32_and_nat (X / 2 ^ (i % 32)) 1 (by omega) (by omega)
    rw [Nat.and_one_is_mod] at e
    rw [show (1 : Int) = ((1 : Nat) : Int) from rfl, e]
    congr 2
    rw [pw_split i, ← Nat.div_div_eq_div_mul, ← V_drop h]
    have hd : l.drop (i / 32) = (X : Int) :: l.drop (i / 32 + 1) := by
      rw [List.drop_eq_getElem_cons (by omega)]
      congr 1
      rw [← hX, List.getD_eq_getElem?_getD, List.getElem?_eq_getElem (by omega)]; rfl
    rw [hd, V_cons, Int.toNat_natCast, ← pw (s := i % 32) (by omega), Nat.mul_assoc, Nat.add_mul_div_left _ _ (pw_pos _)]
    have e3 : 2 ^ (32 - i % 32) = 2 * 2 ^ (31 - i % 32) := by
      rw [show 32 - i % 32 = (31 - i % 32) + 1 by omega, Nat.pow_succ, Nat.mul_comm]
    rw [e3, Nat.mul_assoc, Nat.add_mul_mod_self_left]
end Go.Proofs.YtbcjdlljmhfhdaaGreatDoor.Eng.K

/- The first layer's reference: quotients bit by bit. -/
set_option linter.unusedVariables false
set_option linter.unusedSimpArgs false
namespace Go.Proofs.YtbcjdlljmhfhdaaGreatDoor.Eng.K
open Go.RowKit

theorem bl_list {l : List Int} (h : Dg l) : bl (V l) ≤ 32 * l.length := by
  apply bl_le_of_lt
  have := V_lt h
  rwa [show (4294967296 : Nat) = 2 ^ 32 from rfl, ← Nat.pow_mul] at this
theorem D_lt {n k : Nat} (h : n < 4294967296 ^ k) : (D n).length ≤ k := by
  rcases Nat.lt_or_ge k (D n).length with h1 | h1
  · have h2 := D_len_pos (Nm_D n) (by intro e; rw [e] at h1; simp at h1)
    rw [V_D] at h2
    have h3 : 4294967296 ^ k ≤ 4294967296 ^ ((D n).length - 1) := Nat.pow_le_pow_right (by omega) (by omega)
    omega
  · exact h1
theorem rdown_l0 (A : List Int) (hA : Dg A) (hl : A.length < 1000000000) (b : Bool) {s : Nat} (hs : s < 32) : ∀ (a done pa : List Int), A = pa ++ a → done.length + a.length < 1000000000 → Dg done →
    Ev (fun k => cutplaneref01_Down.l0 k A b done s pa.length) (D (V (done ++ downRec s a)), b)
  | [], done, pa, he, hd, hg => by
    have hlen : A.length = pa.length := by rw [he]; simp
    refine ev_step ?_
    simp only [cutplaneref01_Down.l0]
    (repeat (first | (with_reducible refine ev_pos ?_ ?_; focus (first | omega | assumption | (simp; done) | (simp; omega))) | (with_reducible refine ev_neg ?_ ?_; focus (first | omega | assumption | (simp; done) | (simp; omega)))))
    simp only [downRec, List.append_nil]
    exact Ev.bind (ref_Trim_ev hg (by simp at hd; omega)) (Ev.now _)
  | d :: a, done, pa, he, hd, hg => by
    have hlen : A.length = pa.length + 1 + a.length := by rw [he]; simp; omega
    have hdd : 0 ≤ d ∧ d < 4294967296 := by rw [he] at hA; exact hA.right.head
    obtain ⟨X, rfl⟩ := Int.eq_ofNat_of_zero_le hdd.1
    have hX : X < 4294967296 := by omega
    have h1 : rd A (pa.length : Int) = (X : Int) := by rw [he]; exact rd_app rfl
    have hg2 : Dg (a) := by rw [he] at hA; exact hA.right.tail
    have hy := hg2.headD
    have ih := rdown_l0 A hA hl b hs a (done ++ [((X / 2 ^ s + 2 ^ (32 - s) * ((a.headD 0).toNat % 2 ^ s) : Nat) : Int)]) (pa ++ [(X : Int)]) (by rw [he]; simp) (by simp at hd ⊢; omega)
      (hg.app (Dg.cons nn (lt_cast (down_lt X (a.headD 0).toNat s hs hX)) Dg.nil))
    rw [@List.length_append _ pa, List.length_singleton] at ih
    have hXs : X / 2 ^ s ≤ X := Nat.div_le_self _ _
    have e0 : ((X / 2 ^ s : Nat) : Int) % 4294967296 = ((X / 2 ^ s : Nat) : Int) := by
      generalize X / 2 ^ s = z at *; omega
    refine ev_step ?_
    simp only [cutplaneref01_Down.l0, h1, w64s (n := pa.length) (by omega)]
    (repeat (first | (with_reducible refine ev_pos ?_ ?_; focus (first | omega | assumption | (simp; done) | (simp; omega))) | (with_reducible refine ev_neg ?_ ?_; focus (first | omega | assumption | (simp; done) | (simp; omega)))))
    by_cases hn : a = []
    · subst hn
      simp only [List.length_nil, Nat.add_zero] at hlen
      (repeat (first | (with_reducible refine ev_pos ?_ ?_; focus (first | omega | assumption | (simp; done) | (simp; omega))) | (with_reducible refine ev_neg ?_ ?_; focus (first | omega | assumption | (simp; done) | (simp; omega)))))
      rw [wrap_u64n _ hX, shr_n _ _ (by simp [IntKind.bits]; omega), e0]
      refine ev_eq (by simpa [downRec] using ih) ?_
      simp [downRec]
    · obtain ⟨y, a', rfl⟩ := List.exists_cons_of_ne_nil hn
      obtain ⟨Y, rfl⟩ := Int.eq_ofNat_of_zero_le hy.1
      simp only [List.headD_cons] at hy ih
      have hlen' := hlen
      have w32 : wrap64 (32 - (s : Int)) = 32 - (s : Int) := by unfold wrap64; omega
      have hd' := hd
      simp only [List.length_cons] at hd'
      simp only [List.length_cons] at hlen'
      have h2 : rd A ((pa.length + 1 : Nat) : Int) = (Y : Int) := by rw [he, show pa ++ (X : Int) :: (Y : Int) :: a' = (pa ++ [(X : Int)]) ++ (Y : Int) :: a' by simp]; exact rd_app (by simp)
      simp only [h2, rdown_digit X Y s hs hX (by omega)]
      (repeat (first | (with_reducible refine ev_pos ?_ ?_; focus (first | omega | assumption | (simp; done) | (simp; omega))) | (with_reducible refine ev_neg ?_ ?_; focus (first | omega | assumption | (simp; done) | (simp; omega)))))
      rw [Int.toNat_natCast] at ih
      refine ev_eq ih ?_
      simp [downRec]
/-! ### quotients -/
end Go.Proofs.YtbcjdlljmhfhdaaGreatDoor.Eng.K

/- The first layer's long division: a digit of the quotient. -/
set_option linter.unusedVariables false
set_option linter.unusedSimpArgs false
namespace Go.Proofs.YtbcjdlljmhfhdaaGreatDoor.Eng.K
open Go.RowKit

theorem tdiv_n (a b : Nat) : Int.tdiv (a : Int) (b : Int) = ((a / b : Nat) : Int) := rfl
theorem tmod_n (a b : Nat) : Int.tmod (a : Int) (b : Int) = ((a % b : Nat) : Int) := rfl
end Go.Proofs.YtbcjdlljmhfhdaaGreatDoor.Eng.K

/- The first layer's long division. -/
set_option linter.unusedVariables false
set_option linter.unusedSimpArgs false
namespace Go.Proofs.YtbcjdlljmhfhdaaGreatDoor.Eng.K
open Go.RowKit

theorem w3 {i m : Nat} (h1 : i < 100000000) (h2 : m < 100000000) : wrap64 (wrap64 ((i : Int) + ((m + 2 : Nat) : Int)) + 1) = ((i + (m + 3) : Nat) : Int) := by unfold wrap64; omega
end Go.Proofs.YtbcjdlljmhfhdaaGreatDoor.Eng.K

/- The place of the lowest bit: what it is; the program's way to it, and the reference's. -/
set_option linter.unusedVariables false
set_option linter.unusedSimpArgs false
namespace Go.Proofs.YtbcjdlljmhfhdaaGreatDoor.Eng.K
open Go.RowKit

theorem mx_n (a b : Nat) : mx (a : Int) (b : Int) = ((max a b : Nat) : Int) := by unfold mx; split <;> omega
theorem nat_Len_ev {l : List Int} (h : Nm l) (hb : l.length ≤ 4096) : Ev (fun k => nat_Len.f k l) ((bl (V l) : Nat) : Int) := by
  unfold nat_Len.f
  refine ev_bind (nat_May_eq h.dg (by omega)) ?_
  rw [may_iff.2 ⟨hb, h⟩]
  (repeat (first | (with_reducible refine ev_pos ?_ ?_; focus (first | omega | assumption | (simp; done) | (simp; omega))) | (with_reducible refine ev_neg ?_ ?_; focus (first | omega | assumption | (simp; done) | (simp; omega)))))
  by_cases c : l.length = 0
  · have : l = [] := List.eq_nil_of_length_eq_zero c
    subst this
    (repeat (first | (with_reducible refine ev_pos ?_ ?_; focus (first | omega | assumption | (simp; done) | (simp; omega))) | (with_reducible refine ev_neg ?_ ?_; focus (first | omega | assumption | (simp; done) | (simp; omega)))))
    exact ev_eq (Ev.now _) rfl
  · have e : wrap64 ((l.length : Int) - 1) = ((l.length - 1 : Nat) : Int) := by unfold wrap64; omega
    rw [e]
    clear e
    have hd := h.dg.getD (l.length - 1)
    have hne : l ≠ [] := fun e => c (by rw [e]; rfl)
    rw [rdn]
    (repeat (first | (with_reducible refine ev_pos ?_ ?_; focus (first | omega | assumption | (simp; done) | (simp; omega))) | (with_reducible refine ev_neg ?_ ?_; focus (first | omega | assumption | (simp; done) | (simp; omega)))))
    refine Ev.bind (len32_ev hd) (ev_eq (Ev.now _) ?_)
    rw [bl_V h hne]
    generalize l.getD (l.length - 1) 0 = x at hd
    have hbn : bl x.toNat ≤ 32 := bl_le_of_lt (by omega)
    unfold wrap64
    omega

/-- The lowest bit's place: n is 2 to it times an odd number. -/
def IsLow (n b : Nat) : Prop := ∃ m, n = 2 ^ b * (2 * m + 1)
theorem IsLow.ne {n b : Nat} (h : IsLow n b) : n ≠ 0 := by
  obtain ⟨m, h⟩ := h
  have := Nat.mul_pos (pw_pos b) (show 0 < 2 * m + 1 by omega)
  omega
theorem IsLow.le {n b : Nat} (h : IsLow n b) : 2 ^ b ≤ n := by
  obtain ⟨m, h⟩ := h
  rw [h]; exact Nat.le_mul_of_pos_right _ (by omega)
theorem IsLow.mod {n b k : Nat} (h : IsLow n b) : n % 2 ^ k = 0 ↔ k ≤ b := by
  obtain ⟨m, h⟩ := h
  constructor
  · intro hk
    rcases Nat.lt_or_ge b k with h1 | h1
    · exfalso
      obtain ⟨d, rfl⟩ := Nat.exists_eq_add_of_lt h1
      have hd : 2 ^ (b + d + 1) ∣ 2 ^ b * (2 * m + 1) := by rw [← h]; exact Nat.dvd_of_mod_eq_zero hk
      rw [Nat.add_assoc, Nat.pow_add] at hd
      have h2 := Nat.dvd_of_mul_dvd_mul_left (pw_pos b) hd
      rw [Nat.pow_succ] at h2
      have h3 : 2 ∣ 2 * m + 1 := Nat.dvd_trans (Nat.dvd_mul_left 2 _) h2
      omega
    · exact h1
  · intro hk
    obtain ⟨d, rfl⟩ := Nat.exists_eq_add_of_le hk
    rw [h, Nat.pow_add, Nat.mul_assoc]
    exact Nat.mul_mod_right _ _
theorem IsLow.unique {n b c : Nat} (h : IsLow n b) (k : IsLow n c) : b = c := by
  have h1 := (h.mod (k := b)).2 (Nat.le_refl _)
  have h2 := (k.mod (k := c)).2 (Nat.le_refl _)
  have h3 := k.mod.1 h1
  have h4 := h.mod.1 h2
  omega
theorem isLow_bit {n b : Nat} (h : n % 2 ^ b = 0) (k : n / 2 ^ b % 2 = 1) : IsLow n b :=
  ⟨n / 2 ^ b / 2, by
    have h1 := Nat.div_add_mod n (2 ^ b)
    rw [h, Nat.add_zero] at h1
    have h2 : 2 * (n / 2 ^ b / 2) + 1 = n / 2 ^ b := by omega
    rw [h2, h1]⟩
theorem isLow_up {n b k : Nat} (h : IsLow n b) : IsLow (n * 2 ^ k) (b + k) := by
  obtain ⟨m, h⟩ := h
  exact ⟨m, by rw [h, Nat.pow_add, Nat.mul_assoc, Nat.mul_comm (2 * m + 1), ← Nat.mul_assoc]⟩
theorem isLow_ctz {x : Nat} (h : x ≠ 0) (hx : x < 4294967296) : IsLow x (Lib.ctz 32 x) ∧ Lib.ctz 32 x < 32 := by
  obtain ⟨m, h1, h2⟩ := Lib.ctzFrom_spec 32 x (by omega) hx
  unfold Lib.ctz
  rw [if_neg h]
  exact ⟨⟨m, h1⟩, h2⟩
theorem isLow_add {x r b : Nat} (h : IsLow x b) (hb : b < 32) : IsLow (x + 4294967296 * r) b := by
  obtain ⟨m, h⟩ := h
  obtain ⟨d, hd⟩ : ∃ d, 32 = b + (d + 1) := ⟨31 - b, by omega⟩
  have e : 4294967296 = 2 ^ b * (2 ^ d * 2) := by
    rw [← Nat.pow_succ, ← Nat.pow_add, Nat.succ_eq_add_one, ← hd]
  have e2 : 2 ^ b * (2 ^ d * 2) * r = 2 ^ b * (2 * (2 ^ d * r)) := by
    rw [Nat.mul_assoc, Nat.mul_comm (2 ^ d) 2, Nat.mul_assoc]
  refine ⟨m + 2 ^ d * r, ?_⟩
  rw [h, e, e2, ← Nat.mul_add]
  congr 1
  omega
def lw (n : Nat) : Nat := if n = 0 then 0 else Lib.ctzFrom n n
theorem lw_is {n : Nat} (h : n ≠ 0) : IsLow n (lw n) := by
  obtain ⟨m, h1, _⟩ := Lib.ctzFrom_spec n n (by omega) Nat.lt_two_pow_self
  unfold lw
  rw [if_neg h]
  exact ⟨m, h1⟩
theorem lw_eq {n b : Nat} (h : IsLow n b) : lw n = b := (lw_is h.ne).unique h
theorem tz_eq {x : Int} (h : 0 ≤ x ∧ x < 4294967296) : bits_TrailingZeros32.f x = some ((Lib.ctz 32 x.toNat : Nat) : Int) := by
  unfold bits_TrailingZeros32.f
  rw [if_pos h]
theorem w32a {i b : Nat} (hi : i < 1000000) (hb : b < 32) : wrap64 (wrap64 (32 * (i : Int)) + (b : Int)) = ((b + 32 * i : Nat) : Int) := by unfold wrap64; omega
theorem nlow_l0 (A : List Int) (hA : Dg A) (hl : A.length < 1000000) : ∀ (a pa : List Int), A = pa ++ a → V pa = 0 → Ev (fun k => nat_Low.l0 k A A.length pa.length) ((lw (V A) : Nat) : Int)
  | [], pa, he, hv => by
    have hlen : A.length = pa.length := by rw [he]; simp
    refine ev_step ?_
    simp only [nat_Low.l0]
    (repeat (first | (with_reducible refine ev_pos ?_ ?_; focus (first | omega | assumption | (simp; done) | (simp; omega))) | (with_reducible refine ev_neg ?_ ?_; focus (first | omega | assumption | (simp; done) | (simp; omega)))))
    refine ev_eq (Ev.now _) ?_
    have : V A = 0 := by rw [he, List.append_nil, hv]
    rw [this]; rfl
  | d :: a, pa, he, hv => by
    have hlen : A.length = pa.length + 1 + a.length := by rw [he]; simp; omega
    have hdd : 0 ≤ d ∧ d < 4294967296 := by rw [he] at hA; exact hA.right.head
    have h1 : rd A (pa.length : Int) = d := by rw [he]; exact rd_app rfl
    refine ev_step ?_
    simp only [nat_Low.l0, h1, w64s (n := pa.length) (by omega)]
    (repeat (first | (with_reducible refine ev_pos ?_ ?_; focus (first | omega | assumption | (simp; done) | (simp; omega))) | (with_reducible refine ev_neg ?_ ?_; focus (first | omega | assumption | (simp; done) | (simp; omega)))))
    by_cases h0 : d = 0
    · refine ev_neg (fun h => h h0) ?_
      have := nlow_l0 A hA hl a (pa ++ [0]) (by rw [he, h0]; simp) (by rw [V_snoc_zero, hv])
      rwa [@List.length_append _ pa, List.length_singleton] at this
    · refine ev_pos h0 ?_
      refine ev_bind (tz_eq hdd) ?_
      (repeat (first | (with_reducible refine ev_pos ?_ ?_; focus (first | omega | assumption | (simp; done) | (simp; omega))) | (with_reducible refine ev_neg ?_ ?_; focus (first | omega | assumption | (simp; done) | (simp; omega)))))
      refine ev_eq (Ev.now _) ?_
      have hz := isLow_ctz (x := d.toNat) (by omega) (by omega)
      have e : V A = (d.toNat + 4294967296 * V a) * 2 ^ (32 * pa.length) := by
        rw [he, V_append, hv, V_cons, Nat.zero_add, Nat.mul_comm, Nat.pow_mul]
      rw [e, lw_eq (isLow_up (isLow_add hz.1 hz.2)), w32a (by omega) hz.2]
theorem nat_Low_ev {a : List Int} (ha : Nm a) (la : a.length ≤ 4096) : Ev (fun k => nat_Low.f k a) ((lw (V a) : Nat) : Int) := by
  unfold nat_Low.f
  refine ev_bind (nat_May_eq ha.dg (by omega)) ?_
  rw [may_iff.2 ⟨la, ha⟩]
  (repeat (first | (with_reducible refine ev_pos ?_ ?_; focus (first | omega | assumption | (simp; done) | (simp; omega))) | (with_reducible refine ev_neg ?_ ?_; focus (first | omega | assumption | (simp; done) | (simp; omega)))))
  exact nlow_l0 a ha.dg (by omega) a [] rfl rfl
theorem V_digit {l : List Int} (h : Dg l) (q : Nat) : V l / 4294967296 ^ q % 4294967296 = (l.getD q 0).toNat := by
  have h1 := V_headtail (l.drop q)
  rw [drop_headD, V_drop h] at h1
  have h2 := h.getD q
  rw [h1, Nat.add_mul_mod_self_left, Nat.mod_eq_of_lt (by omega)]
theorem mod_next {n i : Nat} (h : n % 2 ^ i = 0) (k : n / 2 ^ i % 2 = 0) : n % 2 ^ (i + 1) = 0 := by
  rw [Nat.pow_succ, Nat.mod_mul, h, k, Nat.mul_zero]
theorem mod_dig {n q : Nat} (h : n % 2 ^ (32 * q) = 0) (k : n / 4294967296 ^ q % 4294967296 = 0) : n % 2 ^ (32 * q + 32) = 0 := by
  have e : 2 ^ (32 * q + 32) = 2 ^ (32 * q) * 4294967296 := by rw [Nat.pow_add]
  have e2 : 4294967296 ^ q = 2 ^ (32 * q) := by rw [Nat.pow_mul]
  rw [e, Nat.mod_mul, h, ← e2, k, Nat.mul_zero]
theorem rlow_end {l : List Int} (h : Dg l) {i : Nat} (hi : i = 32 * l.length) (hm : V l % 2 ^ i = 0) : V l = 0 := by
  have hv := V_lt h
  have e2 : 4294967296 ^ l.length = 2 ^ (32 * l.length) := by rw [Nat.pow_mul]
  rw [e2, ← hi] at hv
  rwa [Nat.mod_eq_of_lt hv] at hm
theorem dv32 {i m : Nat} (h : i < 32 * m) : ((i / 32 : Nat) : Int) < (m : Int) := by omega
theorem st32 {i : Nat} (h : i < 100000000000) : wrap64 ((i : Int) + 1) = ((i + 1 : Nat) : Int) ∧ wrap64 ((i : Int) + 32) = ((i + 32 : Nat) : Int) := by unfold wrap64; omega
theorem rlow_l0 {l : List Int} (h : Dg l) (hl : l.length < 1000000000) (n : Nat) : ∀ (i : Nat), 32 * l.length - i ≤ n → i ≤ 32 * l.length → V l % 2 ^ i = 0 → (i % 32 = 0 ∨ l.getD (i / 32) 0 ≠ 0) → Ev (fun k => cutplaneref01_Low.l0 k l i) ((lw (V l) : Nat) : Int) := by
  induction n using Nat.strongRecOn with
  | _ n ih =>
    intro i hn hi hm hd
    have e32 : wrap64 (32 * (l.length : Int)) = ((32 * l.length : Nat) : Int) := by unfold wrap64; omega
    refine ev_step ?_
    simp only [cutplaneref01_Low.l0, e32]
    by_cases hlt : i < 32 * l.length
    · have hb := ref_Bit_eq h hl i (by clear hm hd; omega)
      refine ev_pos (by clear hm hd; omega) ?_
      refine ev_bind hb ?_
      have hi9 : i < 100000000000 := by clear hm hd; omega
      have hn1 : 32 * l.length - (i + 1) < n := by clear hm hd; omega
      have hn32 : 32 * l.length - (i + 32) < n := by clear hm hd; omega
      have hi1 : i + 1 ≤ 32 * l.length := hlt
      have hi32 : i % 32 = 0 → i + 32 ≤ 32 * l.length := by clear hm hd; omega
      have hne : i ≠ 32 * l.length := by clear hm hd; omega
      have et : wrap64 (Int.tdiv (i : Int) 32) = ((i / 32 : Nat) : Int) := t32 (by clear hm hd; omega)
      have hdv := dv32 hlt
      simp only [et, rdn]
      rw [(st32 hi9).1, (st32 hi9).2]
      clear et e32
      rcases Nat.mod_two_eq_zero_or_one (V l / 2 ^ i) with hz | hz
      · rw [hz]
        refine ev_pos rfl (ev_pos nn (ev_pos hdv ?_))
        by_cases h0 : l.getD (i / 32) 0 = 0
        · have hi0 : i % 32 = 0 := hd.resolve_right (fun h => h h0)
          have hi33 := hi32 hi0
          obtain ⟨q, hq0⟩ : ∃ q, i = 32 * q := ⟨i / 32, by clear hm hd hz; omega⟩
          subst hq0
          have hq : 32 * q / 32 = q := by clear hm hd hz; omega
          rw [hq] at h0
          rw [hq]
          refine ev_pos h0 ?_
          refine ih _ hn32 (32 * q + 32) (Nat.le_refl _) hi33 (mod_dig hm ?_) (.inl ?_)
          · rw [V_digit h, h0]; rfl
          · clear hm hd hz; omega
        · refine ev_neg h0 ?_
          refine ih _ hn1 (i + 1) (Nat.le_refl _) hi1 (mod_next hm hz) ?_
          clear hm hd hz
          rcases Nat.eq_zero_or_pos ((i + 1) % 32) with h1 | h1
          · exact .inl h1
          · have : (i + 1) / 32 = i / 32 := by omega
            rw [this]; exact .inr h0
      · rw [hz]
        refine ev_neg (by decide) ?_
        refine ev_neg (fun e => hne (Int.ofNat.inj e)) ?_
        refine ev_eq (Ev.now _) ?_
        rw [lw_eq (isLow_bit hm hz)]
    · have hi2 : i = 32 * l.length := by clear hm hd; omega
      refine ev_neg (by clear hm hd; omega) ?_
      refine ev_pos (by rw [hi2]) ?_
      refine ev_eq (Ev.now _) ?_
      rw [rlow_end h hi2 hm]; rfl
theorem ref_Low_ev {l : List Int} (h : Dg l) (hl : l.length < 1000000000) : Ev (fun k => cutplaneref01_Low.f k l) ((lw (V l) : Nat) : Int) := by
  unfold cutplaneref01_Low.f
  exact rlow_l0 h hl _ 0 (Nat.le_refl _) (by omega) (by rw [Nat.pow_zero, Nat.mod_one]) (.inl rfl)
theorem lw_mod {n k : Nat} (h : n ≠ 0) : k > lw n ↔ n % 2 ^ k ≠ 0 := by
  have := (lw_is h).mod (k := k)
  constructor
  · intro h1 h2; have := this.1 h2; omega
  · intro h1; rcases Nat.lt_or_ge (lw n) k with h2 | h2
    · exact h2
    · exact absurd (this.2 h2) h1
theorem ref_Down_is {a : List Int} (ha : Nm a) (la : a.length < 100000000) (n : Nat) (hn : n < 1000000000) : Ev (fun k => cutplaneref01_Down.f k a n) (D (V a / 2 ^ n), decide (V a % 2 ^ n ≠ 0)) := by
  unfold cutplaneref01_Down.f
  have hlt := lt_bl (V a)
  by_cases h : n ≥ bl (V a)
  · have hp : V a < 2 ^ n := Nat.lt_of_lt_of_le hlt (Nat.pow_le_pow_right (by omega) h)
    refine Ev.bind (ref_Len_ev ha (by omega)) ?_
    (repeat (first | (with_reducible refine ev_pos ?_ ?_; focus (first | omega | assumption | (simp; done) | (simp; omega))) | (with_reducible refine ev_neg ?_ ?_; focus (first | omega | assumption | (simp; done) | (simp; omega)))))
    refine ev_eq (Ev.now _) ?_
    rw [Nat.div_eq_of_lt hp, D_zero, Nat.mod_eq_of_lt hp]
    congr 1
    refine decide_eq_decide.2 ?_
    have := V_eq_zero ha
    have hl : a.length = 0 ↔ a = [] := List.length_eq_zero_iff
    constructor
    · intro h1 h2; have := hl.2 (this.1 h2); omega
    · intro h1
      rcases Nat.eq_zero_or_pos a.length with h3 | h3
      · exact absurd (this.2 (hl.1 h3)) h1
      · omega
  · have h0 : V a ≠ 0 := by
      intro h0; rw [h0, bl_zero] at h; omega
    refine Ev.bind (ref_Len_ev ha (by omega)) ?_
    (repeat (first | (with_reducible refine ev_pos ?_ ?_; focus (first | omega | assumption | (simp; done) | (simp; omega))) | (with_reducible refine ev_neg ?_ ?_; focus (first | omega | assumption | (simp; done) | (simp; omega)))))
    refine Ev.bind (ref_Low_ev ha.dg (by omega)) ?_
    (repeat (first | (with_reducible refine ev_pos ?_ ?_; focus (first | omega | assumption | (simp; done) | (simp; omega))) | (with_reducible refine ev_neg ?_ ?_; focus (first | omega | assumption | (simp; done) | (simp; omega)))))
    have hd : decide ((n : Int) > ((lw (V a) : Nat) : Int)) = decide (V a % 2 ^ n ≠ 0) := decide_eq_decide.2 (by rw [← lw_mod h0]; omega)
    rw [hd]
    simp only [t32 (n := n) (by omega), m32]
    have hbl := bl_list ha.dg
    have hq : n / 32 ≤ a.length := by omega
    have h1 := rdown_l0 a ha.dg (by omega) (decide (V a % 2 ^ n ≠ 0)) (s := n % 32) (by omega) (a.drop (n / 32)) [] (a.take (n / 32)) (by simp) (by simp; omega) Dg.nil
    rw [List.length_take, Nat.min_eq_left hq, List.nil_append, down_V ha.dg] at h1
    exact h1
def shiftR (v : Nat) (n : Int) : List Int × Bool × Int :=
  if v = 0 then ([], false, 0) else if n < -131072 then ([], true, 0) else if n < 0 then (D (v / 2 ^ (-n).toNat), decide (v % 2 ^ (-n).toNat ≠ 0), 0) else if n > 131072 - (bl v : Int) then ([], false, 3) else (D (v * 2 ^ n.toNat), false, 0)
theorem nat_Shift_ev {a : List Int} (ha : Nm a) (la : a.length ≤ 4096) (n : Int) : Ev (fun k => nat_Shift.f k a n) (shiftR (V a) n) := by
  unfold nat_Shift.f shiftR
  refine ev_bind (nat_May_eq ha.dg (by omega)) ?_
  rw [may_iff.2 ⟨la, ha⟩]
  (repeat (first | (with_reducible refine ev_pos ?_ ?_; focus (first | omega | assumption | (simp; done) | (simp; omega))) | (with_reducible refine ev_neg ?_ ?_; focus (first | omega | assumption | (simp; done) | (simp; omega)))))
  by_cases c : a = []
  · subst c
    (repeat (first | (with_reducible refine ev_pos ?_ ?_; focus (first | omega | assumption | (simp; done) | (simp; omega))) | (with_reducible refine ev_neg ?_ ?_; focus (first | omega | assumption | (simp; done) | (simp; omega)))))
    exact ev_eq (Ev.now _) (by simp)
  have h0 : V a ≠ 0 := fun h => c ((V_eq_zero ha).1 h)
  have hl : a.length ≠ 0 := fun h => c (List.eq_nil_of_length_eq_zero h)
  have hbl := bl_list ha.dg
  rw [if_neg h0]
  (repeat (first | (with_reducible refine ev_pos ?_ ?_; focus (first | omega | assumption | (simp; done) | (simp; omega))) | (with_reducible refine ev_neg ?_ ?_; focus (first | omega | assumption | (simp; done) | (simp; omega)))))
  by_cases h1 : n < -131072
  · rw [if_pos h1]; exact ev_pos h1 (Ev.now _)
  rw [if_neg h1]
  refine ev_neg h1 ?_
  by_cases h2 : n < 0
  · rw [if_pos h2]
    have e : wrap64 (-n) = (((-n).toNat : Nat) : Int) := by unfold wrap64; omega
    rw [e]
    clear e
    have hm : (-n).toNat ≤ 131072 := by omega
    generalize (-n).toNat = m at *
    refine ev_pos h2 ?_
    refine Ev.bind (nat_down_ev ha.dg (by omega) m (by omega)) ?_
    (repeat (first | (with_reducible refine ev_pos ?_ ?_; focus (first | omega | assumption | (simp; done) | (simp; omega))) | (with_reducible refine ev_neg ?_ ?_; focus (first | omega | assumption | (simp; done) | (simp; omega)))))
    refine Ev.bind (nat_Low_ev ha la) ?_
    (repeat (first | (with_reducible refine ev_pos ?_ ?_; focus (first | omega | assumption | (simp; done) | (simp; omega))) | (with_reducible refine ev_neg ?_ ?_; focus (first | omega | assumption | (simp; done) | (simp; omega)))))
    refine ev_eq (Ev.now _) ?_
    congr 2
    exact decide_eq_decide.2 (by rw [← lw_mod h0]; omega)
  · rw [if_neg h2]
    have e : wrap64 (131072 - ((bl (V a) : Nat) : Int)) = 131072 - ((bl (V a) : Nat) : Int) := by unfold wrap64; omega
    refine ev_neg h2 ?_
    refine Ev.bind (nat_Len_ev ha la) ?_
    (repeat (first | (with_reducible refine ev_pos ?_ ?_; focus (first | omega | assumption | (simp; done) | (simp; omega))) | (with_reducible refine ev_neg ?_ ?_; focus (first | omega | assumption | (simp; done) | (simp; omega)))))
    rw [e]
    clear e
    by_cases h3 : n > 131072 - ((bl (V a) : Nat) : Int)
    · rw [if_pos h3]; exact ev_pos h3 (Ev.now _)
    · rw [if_neg h3]
      obtain ⟨m, rfl⟩ := Int.eq_ofNat_of_zero_le (show 0 ≤ n by omega)
      refine ev_neg h3 ?_
      refine Ev.bind (nat_up_ev ha.dg (by omega) m (by omega)) ?_
      (repeat (first | (with_reducible refine ev_pos ?_ ?_; focus (first | omega | assumption | (simp; done) | (simp; omega))) | (with_reducible refine ev_neg ?_ ?_; focus (first | omega | assumption | (simp; done) | (simp; omega)))))
      refine ev_eq (Ev.now _) ?_
      rw [Int.toNat_natCast]
theorem len_bl {x k : Nat} (h : bl x ≤ 32 * k) : (D x).length ≤ k := by
  refine D_lt ?_
  have e : 4294967296 ^ k = 2 ^ (32 * k) := by rw [Nat.pow_mul]
  rw [e]
  exact Nat.lt_of_lt_of_le (lt_bl x) (Nat.pow_le_pow_right (by omega) h)
theorem bl_up {v : Nat} (h : v ≠ 0) (m : Nat) : bl (v * 2 ^ m) = bl v + m := by
  rw [bl_shift (n := v * 2 ^ m) (k := m) (Nat.le_mul_of_pos_left _ (by omega)), Nat.mul_div_cancel _ (pw_pos m), Nat.add_comm]
theorem shiftR_up {v m : Nat} (h : bl v + m ≤ 131072) : shiftR v (m : Int) = (D (v * 2 ^ m), false, 0) := by
  unfold shiftR
  by_cases hv : v = 0
  · rw [if_pos hv, hv, Nat.zero_mul, D_zero]
  · rw [if_neg hv, if_neg (by omega), if_neg (by omega), if_neg (by omega), Int.toNat_natCast]
theorem shiftR_down {v m : Nat} (h : bl v ≤ 131072) (hm : m ≤ 131072) : shiftR v (-(m : Int)) = (D (v / 2 ^ m), decide (v % 2 ^ m ≠ 0), 0) := by
  by_cases hv : v = 0
  · unfold shiftR
    rw [if_pos hv, hv, Nat.zero_div, Nat.zero_mod, D_zero]; rfl
  rcases Nat.eq_zero_or_pos m with h0 | h0
  · subst h0
    have e := shiftR_up (v := v) (m := 0) (by omega)
    rw [Nat.pow_zero, Nat.mul_one] at e
    rw [Nat.pow_zero, Nat.div_one, Nat.mod_one]
    exact e
  · unfold shiftR
    have e : (-(-(m : Int))).toNat = m := by omega
    rw [if_neg hv, if_neg (by omega), if_pos (by omega), e]
end Go.Proofs.YtbcjdlljmhfhdaaGreatDoor.Eng.K

/- Dyadic numbers: whole numbers times a power of two, in their one form; the reference's and the program's way to that form. -/
set_option linter.unusedVariables false
set_option linter.unusedSimpArgs false
namespace Go.Proofs.YtbcjdlljmhfhdaaGreatDoor.Eng.K
open Go.RowKit

/-- A size with a sign. -/
def sv (s : Bool) (n : Nat) : Int := if s = true then -(n : Int) else n
theorem sv_abs (s : Bool) (n : Nat) : (sv s n).natAbs = n := by unfold sv; split <;> simp
theorem sv_eq_zero {s : Bool} {n : Nat} : sv s n = 0 ↔ n = 0 := by unfold sv; split <;> omega
theorem sv_neg {s : Bool} {n : Nat} (h : n ≠ 0) : decide (sv s n < 0) = s := by
  unfold sv
  cases s
  · exact decide_eq_false (by simp)
  · exact decide_eq_true (by simp; omega)
theorem sv_zero (s : Bool) : sv s 0 = 0 := by unfold sv; split <;> rfl
/-- z times 2^e, in the one form: sign, digits (an odd number), exponent. -/
def mk (z e : Int) : Bool × List Int × Int := if z = 0 then (false, [], 0) else (decide (z < 0), D (z.natAbs / 2 ^ lw z.natAbs), e + (lw z.natAbs : Nat))
/-- In its one form? -/
structure Dy (s : Bool) (l : List Int) (e : Int) : Prop where
  nm : Nm l
  none : l = [] → s = false ∧ e = 0
  odd : l ≠ [] → V l % 2 = 1
theorem Dy_mk (z e : Int) : Dy (mk z e).1 (mk z e).2.1 (mk z e).2.2 := by
  unfold mk
  by_cases h : z = 0
  · rw [if_pos h]; exact ⟨Nm_nil, fun _ => ⟨rfl, rfl⟩, fun h => absurd rfl h⟩
  · rw [if_neg h]
    obtain ⟨m, hm⟩ := lw_is (n := z.natAbs) (by omega)
    have h1 : z.natAbs / 2 ^ lw z.natAbs = 2 * m + 1 := by
      have : z.natAbs / 2 ^ lw z.natAbs = 2 ^ lw z.natAbs * (2 * m + 1) / 2 ^ lw z.natAbs := by rw [← hm]
      rw [this, Nat.mul_div_cancel_left _ (pw_pos _)]
    have h2 : D (z.natAbs / 2 ^ lw z.natAbs) ≠ [] := by rw [h1, D_pos (by omega)]; simp
    exact ⟨Nm_D _, fun h => absurd h h2, fun _ => by show V (D _) % 2 = 1; rw [V_D, h1]; omega⟩
theorem mk_sv (s : Bool) {n : Nat} (h : n ≠ 0) (e : Int) : mk (sv s n) e = (s, D (n / 2 ^ lw n), e + (lw n : Nat)) := by
  unfold mk
  rw [if_neg (fun h2 => h (sv_eq_zero.1 h2)), sv_abs, sv_neg h]
theorem lw_lt {n : Nat} (h : n ≠ 0) : lw n < bl n := by
  have h1 := (lw_is h).le
  rcases Nat.lt_or_ge (lw n) (bl n) with h2 | h2
  · exact h2
  · have h3 := lt_bl n
    have h4 : 2 ^ bl n ≤ 2 ^ lw n := Nat.pow_le_pow_right (by omega) h2
    omega
theorem nil_len {l : List Int} : (l.length : Int) = 0 ↔ l = [] := by
  constructor
  · intro h; exact List.eq_nil_of_length_eq_zero (by omega)
  · intro h; rw [h]; rfl
theorem wexp {e : Int} {b : Nat} (h1 : -1000000000000000 ≤ e) (h2 : e ≤ 1000000000000000) (hb : b < 100000000000) : wrap64 (e + (b : Int)) = e + (b : Int) := by unfold wrap64; omega
theorem ref_Form_ev (s : Bool) {l : List Int} (hl : Nm l) (ll : l.length < 10000000) {e : Int} (h1 : -1000000000000000 ≤ e) (h2 : e ≤ 1000000000000000) : Ev (fun k => cutplaneref02_Form.f k s l e) (mk (sv s (V l)) e) := by
  unfold cutplaneref02_Form.f
  by_cases c : l = []
  · subst c
    (repeat (first | (with_reducible refine ev_pos ?_ ?_; focus (first | omega | assumption | (simp; done) | (simp; omega))) | (with_reducible refine ev_neg ?_ ?_; focus (first | omega | assumption | (simp; done) | (simp; omega)))))
    exact ev_eq (Ev.now _) (by rw [V_nil, sv_zero]; rfl)
  · have h0 : V l ≠ 0 := fun h => c ((V_eq_zero hl).1 h)
    have hb := bl_list hl.dg
    have hw := lw_lt h0
    refine ev_neg (fun h => c (nil_len.1 h)) ?_
    refine Ev.bind (ref_Low_ev hl.dg (by omega)) ?_
    (repeat (first | (with_reducible refine ev_pos ?_ ?_; focus (first | omega | assumption | (simp; done) | (simp; omega))) | (with_reducible refine ev_neg ?_ ?_; focus (first | omega | assumption | (simp; done) | (simp; omega)))))
    refine Ev.bind (ref_Down_is hl (by omega) (lw (V l)) (by omega)) ?_
    (repeat (first | (with_reducible refine ev_pos ?_ ?_; focus (first | omega | assumption | (simp; done) | (simp; omega))) | (with_reducible refine ev_neg ?_ ?_; focus (first | omega | assumption | (simp; done) | (simp; omega)))))
    refine ev_eq (Ev.now _) ?_
    rw [mk_sv s h0, wexp h1 h2 (by omega)]
/-- What Make answers: the one form, or that the exponent is too great. -/
def makeR (s : Bool) (n : Nat) (e : Int) : Bool × List Int × Int × Int :=
  if n = 0 then (false, [], 0, 0) else if e > 16777216 - (lw n : Nat) then (false, [], 0, 20) else if e < -16777216 - (lw n : Nat) then (false, [], 0, 20) else ((mk (sv s n) e).1, (mk (sv s n) e).2.1, (mk (sv s n) e).2.2, 0)
theorem dyad_Make_ev (s : Bool) {l : List Int} (hl : Nm l) (ll : l.length ≤ 4096) (e : Int) : Ev (fun k => dyad_Make.f k s l e) (makeR s (V l) e) := by
  unfold dyad_Make.f makeR
  refine ev_bind (nat_May_eq hl.dg (by omega)) ?_
  rw [may_iff.2 ⟨ll, hl⟩]
  (repeat (first | (with_reducible refine ev_pos ?_ ?_; focus (first | omega | assumption | (simp; done) | (simp; omega))) | (with_reducible refine ev_neg ?_ ?_; focus (first | omega | assumption | (simp; done) | (simp; omega)))))
  by_cases c : l = []
  · subst c
    (repeat (first | (with_reducible refine ev_pos ?_ ?_; focus (first | omega | assumption | (simp; done) | (simp; omega))) | (with_reducible refine ev_neg ?_ ?_; focus (first | omega | assumption | (simp; done) | (simp; omega)))))
    exact ev_eq (Ev.now _) (by rw [V_nil, if_pos rfl])
  · have h0 : V l ≠ 0 := fun h => c ((V_eq_zero hl).1 h)
    have hb := bl_list hl.dg
    have hw := lw_lt h0
    rw [if_neg h0]
    refine ev_neg (fun h => c (nil_len.1 h)) ?_
    refine Ev.bind (nat_Low_ev hl ll) ?_
    (repeat (first | (with_reducible refine ev_pos ?_ ?_; focus (first | omega | assumption | (simp; done) | (simp; omega))) | (with_reducible refine ev_neg ?_ ?_; focus (first | omega | assumption | (simp; done) | (simp; omega)))))
    have e1 : wrap64 (16777216 - ((lw (V l) : Nat) : Int)) = 16777216 - ((lw (V l) : Nat) : Int) := by unfold wrap64; omega
    have e2 : wrap64 (-16777216 - ((lw (V l) : Nat) : Int)) = -16777216 - ((lw (V l) : Nat) : Int) := by unfold wrap64; omega
    have e3 : wrap64 (-((lw (V l) : Nat) : Int)) = -((lw (V l) : Nat) : Int) := by unfold wrap64; omega
    rw [e1, e2, e3]
    clear e1 e2 e3
    by_cases h1 : e > 16777216 - ((lw (V l) : Nat) : Int)
    · rw [if_pos h1]; exact ev_pos h1 (Ev.now _)
    rw [if_neg h1]
    refine ev_neg h1 ?_
    by_cases h2 : e < -16777216 - ((lw (V l) : Nat) : Int)
    · rw [if_pos h2]; exact ev_pos h2 (Ev.now _)
    rw [if_neg h2]
    have hs := nat_Shift_ev hl ll (-((lw (V l) : Nat) : Int))
    rw [shiftR_down (by omega) (by omega)] at hs
    refine ev_neg h2 ?_
    refine Ev.bind hs ?_
    (repeat (first | (with_reducible refine ev_pos ?_ ?_; focus (first | omega | assumption | (simp; done) | (simp; omega))) | (with_reducible refine ev_neg ?_ ?_; focus (first | omega | assumption | (simp; done) | (simp; omega)))))
    refine ev_eq (Ev.now _) ?_
    rw [mk_sv s h0, wexp (by omega) (by omega) (by omega)]
end Go.Proofs.YtbcjdlljmhfhdaaGreatDoor.Eng.K

/- Dyadic numbers, the reference: signs, tops, sums, differences, products, which is above which. -/
set_option linter.unusedVariables false
set_option linter.unusedSimpArgs false
namespace Go.Proofs.YtbcjdlljmhfhdaaGreatDoor.Eng.K
open Go.RowKit

theorem len_pos {l : List Int} (c : l ≠ []) : (l.length : Int) > 0 := by
  have := List.length_pos_iff.2 c
  omega
end Go.Proofs.YtbcjdlljmhfhdaaGreatDoor.Eng.K

/- Dyadic numbers, the reference: products, orders, floors, cuts, whole numbers. -/
set_option linter.unusedVariables false
set_option linter.unusedSimpArgs false
namespace Go.Proofs.YtbcjdlljmhfhdaaGreatDoor.Eng.K
open Go.RowKit

/-- The place above the highest bit. -/
def top (z e : Int) : Int := if z = 0 then 0 else e + (bl z.natAbs : Nat)
theorem ref_Top2_ev {s : Bool} {l : List Int} {e : Int} (h : Dy s l e) (hl : l.length ≤ 1000000) (h1 : -1000000000000000 ≤ e) (h2 : e ≤ 1000000000000000) : Ev (fun k => cutplaneref02_Top.f k s l e) (top (sv s (V l)) e) := by
  unfold cutplaneref02_Top.f top
  by_cases c : l = []
  · subst c
    (repeat (first | (with_reducible refine ev_pos ?_ ?_; focus (first | omega | assumption | (simp; done) | (simp; omega))) | (with_reducible refine ev_neg ?_ ?_; focus (first | omega | assumption | (simp; done) | (simp; omega)))))
    exact ev_eq (Ev.now _) (by rw [V_nil, sv_zero]; rfl)
  · have h3 := h.odd c
    have h0 : V l ≠ 0 := by omega
    have hb := bl_list h.nm.dg
    refine ev_neg (fun h => c (nil_len.1 h)) ?_
    refine Ev.bind (ref_Len_ev h.nm (by omega)) ?_
    (repeat (first | (with_reducible refine ev_pos ?_ ?_; focus (first | omega | assumption | (simp; done) | (simp; omega))) | (with_reducible refine ev_neg ?_ ?_; focus (first | omega | assumption | (simp; done) | (simp; omega)))))
    refine ev_eq (Ev.now _) ?_
    rw [if_neg (fun h => h0 (sv_eq_zero.1 h)), sv_abs, wexp h1 h2 (by omega)]
end Go.Proofs.YtbcjdlljmhfhdaaGreatDoor.Eng.K

/- Dyadic numbers, the program: what may be, whole numbers, signs, tops. -/
set_option linter.unusedVariables false
set_option linter.unusedSimpArgs false
namespace Go.Proofs.YtbcjdlljmhfhdaaGreatDoor.Eng.K
open Go.RowKit

theorem and_one32 (X : Nat) (hX : X < 4294967296) : Go.bits .and .u32 (X : Int) 1 = ((X % 2 : Nat) : Int) := by
  have h1 : (BitVec.ofInt 32 (X : Int)).toNat = X := by
    rw [BitVec.ofInt_natCast, BitVec.toNat_ofNat]; exact Nat.mod_eq_of_lt (by omega)
  show IntKind.u32.wrap ((BitVec.ofInt 32 (X : Int) &&& BitVec.ofInt 32 1).toNat : Int) = _
  have h2 : (BitVec.ofInt 32 (1 : Int)).toNat = 1 := by decide
  have h3 : ∀ n : Int, IntKind.u32.wrap n = n % 4294967296 := fun n => by simp [IntKind.wrap, IntKind.signed, IntKind.bits]
  rw [BitVec.toNat_and, h1, h2, h3, Nat.and_one_is_mod]
  omega
theorem low_digit {l : List Int} (h : Dg l) : Go.bits .and .u32 (rd l 0) 1 = ((V l % 2 : Nat) : Int) := by
  have h1 := h.getD 0
  have h2 := V_digit h 0
  rw [Nat.pow_zero, Nat.div_one] at h2
  have h3 : rd l 0 = l.getD 0 0 := rdn l 0
  rw [h3]
  obtain ⟨x, hx⟩ := Int.eq_ofNat_of_zero_le h1.1
  rw [hx] at h1 h2 ⊢
  rw [and_one32 x (by omega)]
  rw [Int.toNat_natCast] at h2
  omega
/-- A number that may be, in its one form. -/
structure My (s : Bool) (l : List Int) (e : Int) : Prop where
  dy : Dy s l e
  len : l.length ≤ 4096
  lo : -16777216 ≤ e
  hi : e ≤ 16777216
theorem dyad_May_true {s : Bool} {l : List Int} {e : Int} (h : My s l e) : dyad_May.f s l e = some true := by
  obtain ⟨hd, hl, h1, h2⟩ := h
  unfold dyad_May.f
  rw [nat_May_eq hd.nm.dg (by omega), Option.bind_some, may_iff.2 ⟨hl, hd.nm⟩, if_neg (by simp)]
  by_cases c : l = []
  · obtain ⟨h3, h4⟩ := hd.none c
    subst c; subst h3; subst h4
    rfl
  · have ho := hd.odd c
    rw [if_neg (fun h => c (nil_len.1 h)), if_pos (len_pos c), low_digit hd.nm.dg, if_pos (by omega)]
    unfold dyad_inside.f
    rw [if_pos h1, decide_eq_true h2]; rfl
theorem dyad_Top_ev {s : Bool} {l : List Int} {e : Int} (h : My s l e) : Ev (fun k => dyad_Top.f k s l e) (top (sv s (V l)) e) := by
  have hb := bl_list h.dy.nm.dg
  have hl := h.len
  have e1 := h.lo
  have e2 := h.hi
  unfold dyad_Top.f top
  refine ev_bind (dyad_May_true h) ?_
  (repeat (first | (with_reducible refine ev_pos ?_ ?_; focus (first | omega | assumption | (simp; done) | (simp; omega))) | (with_reducible refine ev_neg ?_ ?_; focus (first | omega | assumption | (simp; done) | (simp; omega)))))
  by_cases c : l = []
  · subst c
    (repeat (first | (with_reducible refine ev_pos ?_ ?_; focus (first | omega | assumption | (simp; done) | (simp; omega))) | (with_reducible refine ev_neg ?_ ?_; focus (first | omega | assumption | (simp; done) | (simp; omega)))))
    exact ev_eq (Ev.now _) (by rw [V_nil, sv_zero]; rfl)
  · have h1 := h.dy.odd c
    have h0 : V l ≠ 0 := by omega
    refine ev_neg (fun h => c (nil_len.1 h)) (Ev.bind (nat_Len_ev h.dy.nm hl) (ev_eq (Ev.now _) ?_))
    rw [if_neg (fun h => h0 (sv_eq_zero.1 h)), sv_abs, wexp (by omega) (by omega) (by omega)]
theorem makeR_ok {s : Bool} {n : Nat} {e : Int} (h1 : -16777216 ≤ e) (h2 : e + (bl n : Nat) ≤ 16777216) : makeR s n e = ((mk (sv s n) e).1, (mk (sv s n) e).2.1, (mk (sv s n) e).2.2, 0) := by
  unfold makeR
  by_cases h0 : n = 0
  · rw [if_pos h0, h0, sv_zero]; rfl
  · have := lw_lt h0
    rw [if_neg h0, if_neg (by omega), if_neg (by omega)]
end Go.Proofs.YtbcjdlljmhfhdaaGreatDoor.Eng.K

/- Dyadic numbers, the program: sums, differences, products of numbers that are not too long. -/
set_option linter.unusedVariables false
set_option linter.unusedSimpArgs false
namespace Go.Proofs.YtbcjdlljmhfhdaaGreatDoor.Eng.K
open Go.RowKit

/-- A dyadic number with the answer's error (none). -/
def ok3 (d : Bool × List Int × Int) : Bool × List Int × Int × Int := (d.1, d.2.1, d.2.2, 0)
theorem makeR_ok3 {s : Bool} {n : Nat} {e : Int} (h1 : -16777216 ≤ e) (h2 : e + (bl n : Nat) ≤ 16777216) : makeR s n e = ok3 (mk (sv s n) e) := makeR_ok h1 h2
/-- A short number, not far out. -/
structure Sm (s : Bool) (l : List Int) (e : Int) : Prop where
  dy : Dy s l e
  len : l.length ≤ 1000
  lo : -40000 ≤ e
  hi : e ≤ 40000
theorem Sm.my {s : Bool} {l : List Int} {e : Int} (h : Sm s l e) : My s l e := ⟨h.dy, Nat.le_trans h.len (by omega), by have := h.lo; omega, by have := h.hi; omega⟩
end Go.Proofs.YtbcjdlljmhfhdaaGreatDoor.Eng.K

/- Words of both formats: their shapes, and their bits as numbers. -/
set_option linter.unusedVariables false
set_option linter.unusedSimpArgs false
namespace Go.Proofs.YtbcjdlljmhfhdaaGreatDoor.Eng.K
open Go.RowKit

theorem bv64 (n : Nat) (h : n < 18446744073709551616) : (BitVec.ofInt 64 (n : Int)).toNat = n := by
  rw [BitVec.ofInt_natCast, BitVec.toNat_ofNat]; exact Nat.mod_eq_of_lt (by omega)
theorem and64 (a b : Nat) (ha : a < 18446744073709551616) (hb : b < 18446744073709551616) : Go.bits .and .u64 (a : Int) (b : Int) = ((a &&& b : Nat) : Int) := by
  show IntKind.u64.wrap ((BitVec.ofInt 64 (a : Int) &&& BitVec.ofInt 64 (b : Int)).toNat : Int) = _
  have hx : a &&& b < 2 ^ 64 := Nat.and_lt_two_pow _ (by omega)
  rw [BitVec.toNat_and, bv64 a ha, bv64 b hb, u64m]
  omega
theorem or64 (a b : Nat) (ha : a < 18446744073709551616) (hb : b < 18446744073709551616) : Go.bits .or .u64 (a : Int) (b : Int) = ((a ||| b : Nat) : Int) := by
  show IntKind.u64.wrap ((BitVec.ofInt 64 (a : Int) ||| BitVec.ofInt 64 (b : Int)).toNat : Int) = _
  have hx : a ||| b < 2 ^ 64 := Nat.or_lt_two_pow (by omega) (by omega)
  rw [BitVec.toNat_or, bv64 a ha, bv64 b hb, u64m]
  omega
theorem andNot64 (a b : Nat) (ha : a < 18446744073709551616) (hb : b < 18446744073709551616) : Go.bits .andNot .u64 (a : Int) (b : Int) = ((a &&& (18446744073709551616 - 1 - b) : Nat) : Int) := by
  show IntKind.u64.wrap ((BitVec.ofInt 64 (a : Int) &&& ~~~(BitVec.ofInt 64 (b : Int))).toNat : Int) = _
  have hx : a &&& (18446744073709551616 - 1 - b) < 2 ^ 64 := Nat.and_lt_two_pow _ (by omega)
  rw [BitVec.toNat_and, BitVec.toNat_not, bv64 a ha, bv64 b hb, u64m]
  have e : 2 ^ 64 - 1 - b = 18446744073709551616 - 1 - b := by omega
  rw [e]
  omega
/-- The low bits. -/
theorem and_low (a k : Nat) (ha : a < 18446744073709551616) (hk : k ≤ 63) : Go.bits .and .u64 (a : Int) ((2 ^ k - 1 : Nat) : Int) = ((a % 2 ^ k : Nat) : Int) := by
  have h1 : 2 ^ k ≤ 2 ^ 63 := Nat.pow_le_pow_right (by omega) hk
  rw [and64 a _ ha (by omega), Nat.and_two_pow_sub_one_eq_mod]
/-- All but the highest bit. -/
theorem andNot_top (w k : Nat) (hk : k ≤ 63) (hw : w < 2 ^ (k + 1)) : Go.bits .andNot .u64 (w : Int) ((2 ^ k : Nat) : Int) = ((w % 2 ^ k : Nat) : Int) := by
  have h1 : 2 ^ k ≤ 2 ^ 63 := Nat.pow_le_pow_right (by omega) hk
  have h2 : 2 ^ (k + 1) ≤ 2 ^ 64 := Nat.pow_le_pow_right (by omega) (by omega)
  rw [andNot64 w _ (by omega) (by omega)]
  congr 1
  apply Nat.eq_of_testBit_eq
  intro i
  have e : 18446744073709551616 - 1 - 2 ^ k = 2 ^ 64 - (2 ^ k + 1) := by omega
  rw [Nat.testBit_and, Nat.testBit_mod_two_pow, e, Nat.testBit_two_pow_sub_succ (by omega), Nat.testBit_two_pow]
  rcases Nat.lt_trichotomy i k with h | h | h
  · have h3 : i < 64 := by omega
    have h4 : ¬ k = i := by omega
    simp [h, h3, h4]
  · subst h; simp
  · have h3 : w.testBit i = false := Nat.testBit_lt_two_pow (Nat.lt_of_lt_of_le hw (Nat.pow_le_pow_right (by omega) (by omega)))
    have h4 : ¬ i < k := by omega
    simp [h3, h4]
theorem and_top (w k : Nat) (hk : k ≤ 63) (hw : w < 2 ^ (k + 1)) : Go.bits .and .u64 (w : Int) ((2 ^ k : Nat) : Int) = ((w / 2 ^ k * 2 ^ k : Nat) : Int) := by
  have h1 : 2 ^ k ≤ 2 ^ 63 := Nat.pow_le_pow_right (by omega) hk
  have h2 : 2 ^ (k + 1) ≤ 2 ^ 64 := Nat.pow_le_pow_right (by omega) (by omega)
  rw [and64 w _ (by omega) (by omega)]
  congr 1
  apply Nat.eq_of_testBit_eq
  intro i
  rw [Nat.testBit_and, Nat.testBit_two_pow, Nat.testBit_mul_two_pow, Nat.testBit_div_two_pow]
  rcases Nat.lt_trichotomy i k with h | h | h
  · have h3 : ¬ k = i := by omega
    have h4 : ¬ k ≤ i := by omega
    simp [h3, h4]
  · subst h; simp
  · have h3 : w.testBit i = false := Nat.testBit_lt_two_pow (Nat.lt_of_lt_of_le hw (Nat.pow_le_pow_right (by omega) (by omega)))
    have h4 : ¬ k = i := by omega
    have h5 : i - k + k = i := by omega
    simp [h3, h4, h5]
/-- Bits that don't meet. -/
theorem or_sum (a b k : Nat) (hb : b < 2 ^ k) (h : a * 2 ^ k + b < 18446744073709551616) : Go.bits .or .u64 ((a * 2 ^ k : Nat) : Int) (b : Int) = ((a * 2 ^ k + b : Nat) : Int) := by
  rw [or64 _ _ (by omega) (by omega)]
  congr 1
  rw [Nat.mul_comm]
  exact (Nat.two_pow_add_eq_or_of_lt hb a).symm
theorem or_comm64 (a b : Nat) (ha : a < 18446744073709551616) (hb : b < 18446744073709551616) : Go.bits .or .u64 (a : Int) (b : Int) = Go.bits .or .u64 (b : Int) (a : Int) := by
  rw [or64 a b ha hb, or64 b a hb ha, Nat.or_comm]
end Go.Proofs.YtbcjdlljmhfhdaaGreatDoor.Eng.K

/- Words of both formats, the program: open, class, fields. -/
set_option linter.unusedVariables false
set_option linter.unusedSimpArgs false
namespace Go.Proofs.YtbcjdlljmhfhdaaGreatDoor.Eng.K
open Go.RowKit

/-- A format; its fraction's bits, its greatest exponent field, its sign's place. -/
def isF (f : Int) : Prop := f = 1 ∨ f = 2
def fb (f : Int) : Nat := if f = 1 then 23 else 52
def mo (f : Int) : Nat := if f = 1 then 255 else 2047
def sk (f : Int) : Nat := if f = 1 then 31 else 63
def sg (f : Int) : Nat := if f = 1 then 2147483648 else 9223372036854775808
theorem shapeOf_eq {f : Int} (h : isF f) : word_shapeOf.f f = some ((fb f : Int), (mo f : Int), (sg f : Int), true) := by
  rcases h with rfl | rfl <;> rfl
theorem shapeOf_bad {f : Int} (h : ¬ isF f) : word_shapeOf.f f = some (0, 0, 0, false) := by
  unfold word_shapeOf.f
  rw [if_neg (fun e => h (.inl e)), if_neg (fun e => h (.inr e))]
theorem word_open_bad {f : Int} (h : ¬ isF f) (l : List Int) : Ev (fun k => word_open.f k f l) (0, 0, 0, 4) := by
  unfold word_open.f
  refine ev_bind (shapeOf_bad h) ?_
  (repeat (first | (with_reducible refine ev_pos ?_ ?_; focus (first | omega | assumption | (simp; done) | (simp; omega))) | (with_reducible refine ev_neg ?_ ?_; focus (first | omega | assumption | (simp; done) | (simp; omega)))))
  exact Ev.now _
theorem most_word {f : Int} (h : isF f) : Go.bits .or .u64 (sg f : Int) (IntKind.u64.wrap ((sg f : Int) - 1)) = ((2 * sg f - 1 : Nat) : Int) := by
  rcases h with rfl | rfl
  · have e : IntKind.u64.wrap (((sg 1 : Nat) : Int) - 1) = ((2147483647 : Nat) : Int) := by rw [u64m]; rfl
    rw [e, or64 _ _ (by decide) (by decide)]; rfl
  · have e : IntKind.u64.wrap (((sg 2 : Nat) : Int) - 1) = ((9223372036854775807 : Nat) : Int) := by rw [u64m]; rfl
    rw [e, or64 _ _ (by decide) (by decide)]; rfl
theorem sg_pos {f : Int} (h : isF f) : 0 < sg f ∧ 2 * sg f ≤ 18446744073709551616 := by rcases h with rfl | rfl <;> decide
theorem sg_pow {f : Int} (h : isF f) : sg f = 2 ^ sk f := by rcases h with rfl | rfl <;> decide
theorem sk_le {f : Int} (h : isF f) : sk f ≤ 63 := by rcases h with rfl | rfl <;> decide
/-- The error of a word that is none of the format's. -/
def goodE (f : Int) (w : Nat) : Int := if w < 2 * sg f then 0 else 6
theorem word_open_one {f : Int} (h : isF f) (w : Nat) : Ev (fun k => word_open.f k f [(w : Int)]) ((fb f : Int), (mo f : Int), (sg f : Int), goodE f w) := by
  have hp := sg_pos h
  unfold word_open.f goodE
  have e1 : wrap64 (0 + 1) = 1 := by rw [w64n (by omega) (by omega)]; rfl
  have el : (([(w : Int)] : List Int).length : Int) = 1 := rfl
  have er : rd [(w : Int)] 0 = (w : Int) := rfl
  refine ev_bind (shapeOf_eq h) ?_
  (repeat (first | (with_reducible refine ev_pos ?_ ?_; focus (first | omega | assumption | (simp; done) | (simp; omega))) | (with_reducible refine ev_neg ?_ ?_; focus (first | omega | assumption | (simp; done) | (simp; omega)))))
  refine ev_step ?_
  simp only [word_open.l0, el, e1, er, most_word h]
  (repeat (first | (with_reducible refine ev_pos ?_ ?_; focus (first | omega | assumption | (simp; done) | (simp; omega))) | (with_reducible refine ev_neg ?_ ?_; focus (first | omega | assumption | (simp; done) | (simp; omega)))))
  by_cases c : w < 2 * sg f
  · rw [if_pos c]
    (repeat (first | (with_reducible refine ev_pos ?_ ?_; focus (first | omega | assumption | (simp; done) | (simp; omega))) | (with_reducible refine ev_neg ?_ ?_; focus (first | omega | assumption | (simp; done) | (simp; omega)))))
    refine ev_step ?_
    simp only [word_open.l0, el]
    (repeat (first | (with_reducible refine ev_pos ?_ ?_; focus (first | omega | assumption | (simp; done) | (simp; omega))) | (with_reducible refine ev_neg ?_ ?_; focus (first | omega | assumption | (simp; done) | (simp; omega)))))
    exact Ev.now _
  · rw [if_neg c]
    (repeat (first | (with_reducible refine ev_pos ?_ ?_; focus (first | omega | assumption | (simp; done) | (simp; omega))) | (with_reducible refine ev_neg ?_ ?_; focus (first | omega | assumption | (simp; done) | (simp; omega)))))
    exact Ev.now _
theorem shl_mo {f : Int} (h : isF f) : shl .u64 ((mo f : Nat) : Int) ((fb f : Nat) : Int) = ((mo f * 2 ^ fb f : Nat) : Int) := by
  rcases h with rfl | rfl <;> decide
theorem inf_eq {f : Int} (h : isF f) : word_shape_inf.f (fb f : Int) (mo f : Int) (sg f : Int) = some ((mo f * 2 ^ fb f : Nat) : Int) := by
  unfold word_shape_inf.f
  have hm : mo f < 10000 := by rcases h with rfl | rfl <;> decide
  rw [if_pos (by omega), u64 (by omega) (by omega), shl_mo h]
/-- What a word stands for: 1 nought, 2 subnormal, 3 normal, 4 infinite, 5 none. -/
def cls (f : Int) (w : Nat) : Int :=
  if w % sg f = 0 then 1 else if w % sg f < 2 ^ fb f then 2 else if w % sg f < mo f * 2 ^ fb f then 3 else if w % sg f = mo f * 2 ^ fb f then 4 else 5
theorem size_eq {f : Int} (h : isF f) {w : Nat} (hw : w < 2 * sg f) : Go.bits .andNot .u64 (w : Int) (sg f : Int) = ((w % sg f : Nat) : Int) := by
  rw [sg_pow h] at hw ⊢
  exact andNot_top w (sk f) (sk_le h) (by rw [Nat.pow_succ, Nat.mul_comm]; exact hw)
theorem one_shl {f : Int} (h : isF f) : shl .u64 1 ((fb f : Nat) : Int) = ((2 ^ fb f : Nat) : Int) := by rcases h with rfl | rfl <;> decide
theorem class_eq {f : Int} (h : isF f) {w : Nat} (hw : w < 2 * sg f) : word_shape_class.f (fb f : Int) (mo f : Int) (sg f : Int) (w : Int) = some (cls f w) := by
  unfold word_shape_class.f cls
  rw [size_eq h hw, one_shl h]
  generalize w % sg f = z
  by_cases c1 : z = 0
  · rw [if_pos (by omega), if_pos c1]
  rw [if_neg (by omega), if_neg c1, if_pos (by omega)]
  by_cases c2 : z < 2 ^ fb f
  · rw [if_pos (by omega), if_pos c2]
  rw [if_neg (by omega), if_neg c2, inf_eq h, Option.bind_some]
  by_cases c3 : z < mo f * 2 ^ fb f
  · rw [if_pos (by omega), if_pos c3]
  rw [if_neg (by omega), if_neg c3, Option.bind_some]
  by_cases c4 : z = mo f * 2 ^ fb f
  · rw [if_pos (by omega), if_pos c4]
  · rw [if_neg (by omega), if_neg c4]
theorem word_Class_ev {f : Int} (h : isF f) {w : Nat} (hw : w < 2 * sg f) : Ev (fun k => word_Class.f k f (w : Int)) (cls f w, 0) := by
  have ho := word_open_one h w
  unfold goodE at ho
  rw [if_pos hw] at ho
  unfold word_Class.f
  refine Ev.bind ho ?_
  (repeat (first | (with_reducible refine ev_pos ?_ ?_; focus (first | omega | assumption | (simp; done) | (simp; omega))) | (with_reducible refine ev_neg ?_ ?_; focus (first | omega | assumption | (simp; done) | (simp; omega)))))
  refine ev_bind (class_eq h hw) ?_
  (repeat (first | (with_reducible refine ev_pos ?_ ?_; focus (first | omega | assumption | (simp; done) | (simp; omega))) | (with_reducible refine ev_neg ?_ ?_; focus (first | omega | assumption | (simp; done) | (simp; omega)))))
  exact Ev.now _
end Go.Proofs.YtbcjdlljmhfhdaaGreatDoor.Eng.K

/- Words of both formats, the program: fields, values. -/
set_option linter.unusedVariables false
set_option linter.unusedSimpArgs false
namespace Go.Proofs.YtbcjdlljmhfhdaaGreatDoor.Eng.K
open Go.RowKit

/-- A word's sign, exponent field, fraction. -/
def wneg (f : Int) (w : Nat) : Bool := decide (sg f ≤ w)
def wexpo (f : Int) (w : Nat) : Nat := w % sg f / 2 ^ fb f
def wfrac (f : Int) (w : Nat) : Nat := w % sg f % 2 ^ fb f
theorem fb_le {f : Int} (h : isF f) : fb f ≤ 52 := by rcases h with rfl | rfl <;> decide
theorem sg_big {f : Int} (h : isF f) : sg f = 2 ^ fb f * (mo f + 1) := by rcases h with rfl | rfl <;> decide
theorem pfb {f : Int} (h : isF f) : 2 ^ fb f ≤ 4503599627370496 := by rcases h with rfl | rfl <;> decide
theorem mo_le {f : Int} (h : isF f) : mo f ≤ 2047 := by rcases h with rfl | rfl <;> decide
theorem split_eq {f : Int} (h : isF f) {w : Nat} (hw : w < 2 * sg f) : word_shape_split.f (fb f : Int) (mo f : Int) (sg f : Int) (w : Int) = some (wneg f w, (wexpo f w : Int), (wfrac f w : Int)) := by
  have hp := sg_pos h
  have hk := sk_le h
  have h52 := fb_le h
  have hpw := pfb h
  have hpp := pw_pos (fb f)
  unfold word_shape_split.f
  rw [size_eq h hw, one_shl h]
  have h1 : Go.bits .and .u64 (w : Int) (sg f : Int) = ((w / sg f * sg f : Nat) : Int) := by
    rw [sg_pow h] at hw ⊢
    exact and_top w (sk f) hk (by rw [Nat.pow_succ, Nat.mul_comm]; exact hw)
  have hz : w % sg f < sg f := Nat.mod_lt _ hp.1
  have h2 : IntKind.u64.wrap (((2 ^ fb f : Nat) : Int) - 1) = ((2 ^ fb f - 1 : Nat) : Int) := by rw [u64m]; omega
  have h3 := and_low (w % sg f) (fb f) (by omega) (by omega)
  have h4 : shr .u64 ((w % sg f : Nat) : Int) ((fb f : Nat) : Int) = ((w % sg f / 2 ^ fb f : Nat) : Int) := shr_n _ _ (by show fb f ≤ 64; omega)
  have h5 : wrap64 ((w % sg f / 2 ^ fb f : Nat) : Int) = ((w % sg f / 2 ^ fb f : Nat) : Int) := by
    have hq : w % sg f / 2 ^ fb f < mo f + 1 := Nat.div_lt_of_lt_mul (by rw [← sg_big h]; exact hz)
    have hm := mo_le h
    clear h1 h2 h3 h4
    generalize w % sg f / 2 ^ fb f = q at hq ⊢
    exact w64n (by omega) (by omega)
  rw [h1, h2, h3, h4, h5]
  have h6 : (decide (¬ (((w / sg f * sg f : Nat) : Int) = 0))) = wneg f w := by
    unfold wneg
    by_cases c : sg f ≤ w
    · have : w / sg f = 1 := Nat.div_eq_of_lt_le (by omega) (by omega)
      rw [this, decide_eq_true c]
      exact decide_eq_true (by omega)
    · rw [Nat.div_eq_of_lt (by omega), decide_eq_false c]
      simp
  rw [h6, if_pos (by omega)]
  rfl
theorem word_Split_ev {f : Int} (h : isF f) {w : Nat} (hw : w < 2 * sg f) : Ev (fun k => word_Split.f k f (w : Int)) (wneg f w, (wexpo f w : Int), (wfrac f w : Int), 0) := by
  have ho := word_open_one h w
  unfold goodE at ho
  rw [if_pos hw] at ho
  unfold word_Split.f
  refine Ev.bind ho ?_
  (repeat (first | (with_reducible refine ev_pos ?_ ?_; focus (first | omega | assumption | (simp; done) | (simp; omega))) | (with_reducible refine ev_neg ?_ ?_; focus (first | omega | assumption | (simp; done) | (simp; omega)))))
  refine ev_bind (split_eq h hw) ?_
  (repeat (first | (with_reducible refine ev_pos ?_ ?_; focus (first | omega | assumption | (simp; done) | (simp; omega))) | (with_reducible refine ev_neg ?_ ?_; focus (first | omega | assumption | (simp; done) | (simp; omega)))))
  exact Ev.now _
/-- The least exponent. -/
def lo (f : Int) : Int := if f = 1 then -149 else -1074
theorem low_eq {f : Int} (h : isF f) : word_shape_low.f (fb f : Int) (mo f : Int) (sg f : Int) = some (lo f) := by
  unfold word_shape_low.f
  have e : wrap64 (Int.tdiv ((mo f : Nat) : Int) 2) = ((mo f / 2 : Nat) : Int) := by
    have := mo_le h
    exact w64n (by show (0 : Int) ≤ ((mo f / 2 : Nat) : Int); omega) (by show ((mo f / 2 : Nat) : Int) < _; omega)
  have hm := mo_le h
  have hb := fb_le h
  rw [e]
  have e2 : wrap64 (1 - ((mo f / 2 : Nat) : Int)) = 1 - ((mo f / 2 : Nat) : Int) := by unfold wrap64; omega
  rw [e2]
  have e3 : wrap64 (1 - ((mo f / 2 : Nat) : Int) - ((fb f : Nat) : Int)) = 1 - ((mo f / 2 : Nat) : Int) - ((fb f : Nat) : Int) := by unfold wrap64; omega
  rw [e3]
  rcases h with rfl | rfl <;> rfl
/-- A finite word's size as a whole number, and its exponent. -/
def wmag (f : Int) (w : Nat) : Nat := if wexpo f w = 0 then wfrac f w else 2 ^ fb f + wfrac f w
def wex (f : Int) (w : Nat) : Int := (if wexpo f w = 0 then 0 else (wexpo f w : Int) - 1) + lo f
theorem finite_ev {f : Int} (h : isF f) {w : Nat} (hw : w < 2 * sg f) : Ev (fun k => word_finite.f k f (w : Int)) ((fb f : Int), (mo f : Int), (sg f : Int), if cls f w ≥ 4 then 7 else 0) := by
  have ho := word_open_one h w
  unfold goodE at ho
  rw [if_pos hw] at ho
  unfold word_finite.f
  refine Ev.bind ho ?_
  (repeat (first | (with_reducible refine ev_pos ?_ ?_; focus (first | omega | assumption | (simp; done) | (simp; omega))) | (with_reducible refine ev_neg ?_ ?_; focus (first | omega | assumption | (simp; done) | (simp; omega)))))
  refine ev_bind (class_eq h hw) ?_
  (repeat (first | (with_reducible refine ev_pos ?_ ?_; focus (first | omega | assumption | (simp; done) | (simp; omega))) | (with_reducible refine ev_neg ?_ ?_; focus (first | omega | assumption | (simp; done) | (simp; omega)))))
  by_cases c : cls f w ≥ 4
  · refine ev_pos c ?_
    exact ev_eq (Ev.now _) (by rw [if_pos c])
  · refine ev_neg c ?_
    exact ev_eq (Ev.now _) (by rw [if_neg c])
theorem mx1 (n : Nat) : (wrap64 ((mx (n : Int) 1) - 1) = if n = 0 then 0 else (n : Int) - 1) ∨ 4611686018427387904 ≤ n := by
  by_cases hb : n < 4611686018427387904
  · left
    have e : mx (n : Int) 1 = ((max n 1 : Nat) : Int) := mx_n n 1
    rw [e, w64n (by omega) (by omega)]
    split <;> omega
  · right; omega
theorem word_Value_ev {f : Int} (h : isF f) {w : Nat} (hw : w < 2 * sg f) (hc : cls f w < 4) : Ev (fun k => word_Value.f k f (w : Int)) (ok3 (mk (sv (wneg f w) (wmag f w)) (wex f w))) := by
  have hf := finite_ev h hw
  rw [if_neg (by omega)] at hf
  have hp := sg_pos h
  have hz : w % sg f < sg f := Nat.mod_lt _ hp.1
  have he : wexpo f w < mo f + 1 := Nat.div_lt_of_lt_mul (by rw [← sg_big h]; exact hz)
  have hm := mo_le h
  have hfr : wfrac f w < 2 ^ fb f := Nat.mod_lt _ (pw_pos _)
  have hpw := pfb h
  have h52 := fb_le h
  have hlo : -1074 ≤ lo f ∧ lo f ≤ -149 := by rcases h with rfl | rfl <;> decide
  have hmx := (mx1 (wexpo f w)).resolve_right (by omega)
  have hbl : ∀ m : Nat, m < 18446744073709551616 → bl m ≤ 64 := fun m hm => bl_le_of_lt (by omega)
  unfold word_Value.f
  refine Ev.bind hf ?_
  (repeat (first | (with_reducible refine ev_pos ?_ ?_; focus (first | omega | assumption | (simp; done) | (simp; omega))) | (with_reducible refine ev_neg ?_ ?_; focus (first | omega | assumption | (simp; done) | (simp; omega)))))
  refine ev_bind (split_eq h hw) ?_
  (repeat (first | (with_reducible refine ev_pos ?_ ?_; focus (first | omega | assumption | (simp; done) | (simp; omega))) | (with_reducible refine ev_neg ?_ ?_; focus (first | omega | assumption | (simp; done) | (simp; omega)))))
  have hex : wrap64 (wrap64 ((mx (wexpo f w : Int) 1) - 1) + lo f) = wex f w := by
    rw [hmx]
    unfold wex wrap64
    split <;> omega
  have hwx : -1074 ≤ wex f w ∧ wex f w ≤ 3000 := by unfold wex; split <;> omega
  by_cases c : wexpo f w = 0
  · have hm0 : wmag f w = wfrac f w := by unfold wmag; rw [if_pos c]
    have o1 := nat_Of_ev (n := (wfrac f w : Int)) (by omega) (by omega)
    rw [Int.toNat_natCast] at o1
    have hb := hbl (wfrac f w) (by omega)
    have m1 := dyad_Make_ev (wneg f w) (Nm_D (wfrac f w)) (len_bl (by omega)) (wex f w)
    rw [V_D, makeR_ok3 (by omega) (by omega)] at m1
    dsimp only
    (repeat (first | (with_reducible refine ev_pos ?_ ?_; focus (first | omega | assumption | (simp; done) | (simp; omega))) | (with_reducible refine ev_neg ?_ ?_; focus (first | omega | assumption | (simp; done) | (simp; omega)))))
    refine ev_step ?_; simp only [word_Value.j1]
    refine Ev.bind (o1) ?_; try dsimp only
    refine ev_bind (low_eq h) ?_; try dsimp only
    rw [hex, hm0]
    refine Ev.bind m1 ?_
    (repeat (first | (with_reducible refine ev_pos ?_ ?_; focus (first | omega | assumption | (simp; done) | (simp; omega))) | (with_reducible refine ev_neg ?_ ?_; focus (first | omega | assumption | (simp; done) | (simp; omega)))))
    exact Ev.now _
  · have hm0 : wmag f w = 1 * 2 ^ fb f + wfrac f w := by unfold wmag; rw [if_neg c, Nat.one_mul]
    have eo : Go.bits .or .u64 (wfrac f w : Int) (shl .u64 1 ((fb f : Nat) : Int)) = ((wmag f w : Nat) : Int) := by
      rw [one_shl h, or_comm64 _ _ (by omega) (by omega), hm0]
      have := or_sum 1 (wfrac f w) (fb f) hfr (by omega)
      rw [Nat.one_mul] at this
      rw [this, Nat.one_mul]
    have hlt : wmag f w < 18446744073709551616 := by omega
    have o1 := nat_Of_ev (n := (wmag f w : Int)) (by omega) (by omega)
    rw [Int.toNat_natCast] at o1
    have hb := hbl (wmag f w) hlt
    have m1 := dyad_Make_ev (wneg f w) (Nm_D (wmag f w)) (len_bl (by omega)) (wex f w)
    rw [V_D, makeR_ok3 (by omega) (by omega)] at m1
    dsimp only
    (repeat (first | (with_reducible refine ev_pos ?_ ?_; focus (first | omega | assumption | (simp; done) | (simp; omega))) | (with_reducible refine ev_neg ?_ ?_; focus (first | omega | assumption | (simp; done) | (simp; omega)))))
    refine ev_step ?_; simp only [word_Value.j1]
    rw [eo]
    refine Ev.bind (o1) ?_; try dsimp only
    refine ev_bind (low_eq h) ?_; try dsimp only
    rw [hex]
    refine Ev.bind m1 ?_
    (repeat (first | (with_reducible refine ev_pos ?_ ?_; focus (first | omega | assumption | (simp; done) | (simp; omega))) | (with_reducible refine ev_neg ?_ ?_; focus (first | omega | assumption | (simp; done) | (simp; omega)))))
    exact Ev.now _
end Go.Proofs.YtbcjdlljmhfhdaaGreatDoor.Eng.K

/- The program's words of numbers, and its named words. -/
set_option linter.unusedVariables false
set_option linter.unusedSimpArgs false
namespace Go.Proofs.YtbcjdlljmhfhdaaGreatDoor.Eng.K
open Go.RowKit

/-- Bits of a finite number; finite numbers are below two to that. -/
def pr (f : Int) : Nat := if f = 1 then 24 else 53
def wd (f : Int) : Int := if f = 1 then 128 else 1024
theorem pr_eq {f : Int} (h : isF f) : pr f = fb f + 1 := by rcases h with rfl | rfl <;> rfl
theorem lo_b {f : Int} (h : isF f) : -1074 ≤ lo f ∧ lo f ≤ -149 := by rcases h with rfl | rfl <;> decide
theorem wd_b {f : Int} (h : isF f) : 128 ≤ wd f ∧ wd f ≤ 1024 := by rcases h with rfl | rfl <;> decide
theorem fits_room {f : Int} (h : isF f) : wd f - (pr f : Nat) - lo f = ((mo f - 2 : Nat) : Int) := by rcases h with rfl | rfl <;> rfl
theorem mo_ge {f : Int} (h : isF f) : 255 ≤ mo f := by rcases h with rfl | rfl <;> decide
theorem numB_small {l : List Int} (h : Nm l) (hb : V l < 18446744073709551616) : numB l = true := by
  have h1 : l.length ≤ 2 := by
    have : (D (V l)).length ≤ 2 := D_len_lt (by omega)
    rwa [h] at this
  unfold numB
  rw [may_iff.2 ⟨by omega, h⟩, decide_eq_true h1]
  rfl
/-! ### named words -/
end Go.Proofs.YtbcjdlljmhfhdaaGreatDoor.Eng.K

/- Words of both formats, the reference: fields, class, named words, values. -/
set_option linter.unusedVariables false
set_option linter.unusedSimpArgs false
namespace Go.Proofs.YtbcjdlljmhfhdaaGreatDoor.Eng.K
open Go.RowKit

instance (f : Int) : Decidable (isF f) := inferInstanceAs (Decidable (f = 1 ∨ f = 2))
theorem rIs_eq (f : Int) : cutplaneref03_Is.f f = some (decide (isF f)) := by
  unfold cutplaneref03_Is.f isF
  by_cases h : f = 1
  · rw [if_pos h]; simp [h]
  · rw [if_neg h]; simp [h]
def isM (m : Int) : Prop := 1 ≤ m ∧ m ≤ 5
instance (m : Int) : Decidable (isM m) := inferInstanceAs (Decidable (1 ≤ m ∧ m ≤ 5))
theorem rGood_eq {f : Int} (h : isF f) {w : Nat} (hw : w < 18446744073709551616) : cutplaneref03_Good.f f (w : Int) = some (goodE f w) := by
  unfold cutplaneref03_Good.f goodE
  rw [rIs_eq, decide_eq_true h, Option.bind_some, if_neg (by simp)]
  rcases h with rfl | rfl
  · rw [if_pos rfl]
    by_cases c : w < 2 * sg 1
    · rw [if_neg (by simp [sg] at c; omega), if_pos c]
    · rw [if_pos (by simp [sg] at c; omega), if_neg c]
  · rw [if_neg (by omega), if_pos (by simp [sg]; omega)]
theorem rGood_bad {f : Int} (h : ¬ isF f) (w : Int) : cutplaneref03_Good.f f w = some 4 := by
  unfold cutplaneref03_Good.f
  rw [rIs_eq, decide_eq_false h, Option.bind_some, if_pos (by simp)]
theorem rSign_eq {f : Int} (h : isF f) : cutplaneref03_Sign.f f = some (sg f : Int) := by rcases h with rfl | rfl <;> rfl
theorem rFrac_eq {f : Int} (h : isF f) : cutplaneref03_Frac.f f = some (fb f : Int) := by rcases h with rfl | rfl <;> rfl
theorem rMost_eq {f : Int} (h : isF f) : cutplaneref03_Most.f f = some (mo f : Int) := by rcases h with rfl | rfl <;> rfl
theorem rLow_eq {f : Int} (h : isF f) : cutplaneref03_Low.f f = some (lo f) := by rcases h with rfl | rfl <;> rfl
theorem wexpo_le {f : Int} (h : isF f) (w : Nat) : wexpo f w ≤ mo f := by
  have hz : w % sg f < sg f := Nat.mod_lt _ (sg_pos h).1
  have : wexpo f w < mo f + 1 := Nat.div_lt_of_lt_mul (by rw [← sg_big h]; exact hz)
  omega
theorem wfrac_lt (f : Int) (w : Nat) : wfrac f w < 2 ^ fb f := Nat.mod_lt _ (pw_pos _)
theorem w_parts (f : Int) (w : Nat) : w % sg f = wexpo f w * 2 ^ fb f + wfrac f w := by
  unfold wexpo wfrac
  have := Nat.div_add_mod (w % sg f) (2 ^ fb f)
  rw [Nat.mul_comm] at this
  exact this.symm
theorem rSplit_eq {f : Int} (h : isF f) (w : Nat) : cutplaneref03_Split.f f (w : Int) = some (wneg f w, (wexpo f w : Int), (wfrac f w : Int)) := by
  have hp := sg_pos h
  have hpp := pw_pos (fb f)
  have hm := mo_le h
  have hx := wexpo_le h w
  have h52 := fb_le h
  unfold cutplaneref03_Split.f
  rw [rSign_eq h, Option.bind_some, Option.bind_some, if_neg (by omega), rFrac_eq h, Option.bind_some, if_pos (by omega), one_shl h, if_neg (by omega), Option.bind_some, if_pos (by omega), tmod_n, tmod_n, shr_n _ _ (by show fb f ≤ 64; omega)]
  have e : wrap64 ((w % sg f / 2 ^ fb f : Nat) : Int) = (wexpo f w : Int) := by
    show wrap64 ((wexpo f w : Nat) : Int) = _
    exact w64n (by omega) (by omega)
  rw [e]
  have e2 : decide ((w : Int) ≥ (sg f : Int)) = wneg f w := decide_eq_decide.2 (by omega)
  rw [e2]
  rfl
theorem cls_eq {f : Int} (h : isF f) (w : Nat) : cls f w = if wexpo f w = 0 then (if wfrac f w = 0 then 1 else 2) else if wexpo f w < mo f then 3 else if wfrac f w = 0 then 4 else 5 := by
  have h1 := w_parts f w
  have h2 := wfrac_lt f w
  have h3 := wexpo_le h w
  have hpp := pw_pos (fb f)
  have hm := mo_ge h
  unfold cls
  rw [h1]
  generalize wfrac f w = r at *
  generalize wexpo f w = q at *
  generalize 2 ^ fb f = p at *
  by_cases c : q = 0
  · subst c
    simp only [Nat.zero_mul, Nat.zero_add, if_true]
    by_cases c2 : r = 0
    · simp [c2]
    · rw [if_neg c2, if_pos h2, if_neg c2]
  · have h4 : p ≤ q * p := Nat.le_mul_of_pos_left _ (by omega)
    rw [if_neg (by omega), if_neg (by omega), if_neg c]
    by_cases c2 : q < mo f
    · have h5 : (q + 1) * p ≤ mo f * p := Nat.mul_le_mul_right _ c2
      rw [Nat.add_mul, Nat.one_mul] at h5
      rw [if_pos (by omega), if_pos c2]
    · have h5 : q = mo f := by omega
      rw [h5, if_neg (by omega), if_neg (Nat.lt_irrefl _)]
      by_cases c3 : r = 0
      · rw [if_pos (by omega), if_pos c3]
      · rw [if_neg (by omega), if_neg c3]
theorem rClass_eq {f : Int} (h : isF f) (w : Nat) : cutplaneref03_Class.f f (w : Int) = some (cls f w) := by
  unfold cutplaneref03_Class.f
  rw [rSplit_eq h, Option.bind_some, cls_eq h, rMost_eq h]
  generalize wfrac f w = r
  generalize wexpo f w = q
  generalize mo f = m
  simp only [Option.bind_some]
  by_cases c : q = 0
  · rw [if_pos (by omega), if_pos c]
    by_cases c2 : r = 0
    · rw [if_pos (by omega), if_pos c2]
    · rw [if_neg (by omega), if_pos (by omega), if_neg c2]
  · rw [if_neg (by omega), if_neg (by omega), if_neg c]
    by_cases c2 : q < m
    · rw [if_pos (by omega), if_pos c2]
    · rw [if_neg (by omega), if_neg c2]
      by_cases c3 : r = 0
      · rw [if_pos (by omega), if_pos c3]
      · rw [if_neg (by omega), if_neg c3]
theorem wmag_lt {f : Int} (h : isF f) (w : Nat) : wmag f w < 18446744073709551616 := by
  have := wfrac_lt f w
  have := pfb h
  unfold wmag; split <;> omega
theorem wex_b {f : Int} (h : isF f) (w : Nat) : -1074 ≤ wex f w ∧ wex f w ≤ 3000 := by
  have := wexpo_le h w
  have := mo_le h
  have := lo_b h
  unfold wex; split <;> omega
theorem rValue_ev {f : Int} (h : isF f) (w : Nat) : Ev (fun k => cutplaneref03_Value.f k f (w : Int)) (mk (sv (wneg f w) (wmag f w)) (wex f w)) := by
  have hlt := wmag_lt h w
  have hwb := wex_b h w
  have hfr := wfrac_lt f w
  have hpw := pfb h
  have hx := wexpo_le h w
  have hm := mo_le h
  have hlo := lo_b h
  have o1 := ref_Of_ev (n := (wmag f w : Int)) (by omega) (by omega)
  rw [Int.toNat_natCast] at o1
  have f1 := ref_Form_ev (wneg f w) (Nm_D (wmag f w)) (by
    have : (D (wmag f w)).length ≤ 2 := D_lt (by omega)
    omega) (e := wex f w) (by omega) (by omega)
  rw [V_D] at f1
  unfold cutplaneref03_Value.f
  refine ev_bind (rSplit_eq h w) ?_; try dsimp only
  by_cases c : wexpo f w = 0
  · have e1 : wmag f w = wfrac f w := by unfold wmag; rw [if_pos c]
    have e2 : wex f w = lo f := by unfold wex; rw [if_pos c]; omega
    rw [e1] at o1
    rw [e1, e2] at f1
    refine ev_pos (by omega) ?_
    refine Ev.bind (o1) ?_; try dsimp only
    refine ev_bind (rLow_eq h) ?_; try dsimp only
    refine Ev.bind (f1) ?_; try dsimp only
    rw [e1, e2]
    exact Ev.now _
  · have e1 : wmag f w = 2 ^ fb f + wfrac f w := by unfold wmag; rw [if_neg c]
    have e2 : wex f w = (wexpo f w : Int) - 1 + lo f := by unfold wex; rw [if_neg c]
    have e3 : IntKind.u64.wrap (((2 ^ fb f : Nat) : Int) + (wfrac f w : Int)) = (wmag f w : Int) := by rw [e1, ← Int.natCast_add]; exact u64 (by omega) (by omega)
    have e4 : wrap64 (wrap64 ((wexpo f w : Int) - 1) + lo f) = wex f w := by rw [e2]; unfold wrap64; omega
    refine ev_neg (by omega) ?_
    refine ev_bind (rFrac_eq h) ?_; try dsimp only
    rw [one_shl h, e3]
    refine ev_pos (by omega) ?_
    refine Ev.bind (o1) ?_; try dsimp only
    refine ev_bind (rLow_eq h) ?_; try dsimp only
    rw [e4]
    refine Ev.bind (f1) ?_; try dsimp only
    exact Ev.now _
end Go.Proofs.YtbcjdlljmhfhdaaGreatDoor.Eng.K

/- Words of one format as words of another; what is asked ahead. -/
set_option linter.unusedVariables false
set_option linter.unusedSimpArgs false
namespace Go.Proofs.YtbcjdlljmhfhdaaGreatDoor.Eng.K
open Go.RowKit

/-! ### words that are numbers -/
theorem cls_num {f : Int} (h : isF f) {w : Nat} (h1 : cls f w ≠ 1) (h2 : cls f w < 4) : wmag f w ≠ 0 := by
  rw [cls_eq h] at h1 h2
  have hp := pw_pos (fb f)
  unfold wmag
  by_cases c : wexpo f w = 0
  · rw [if_pos c] at h1 h2 ⊢
    intro h3
    rw [if_pos h3] at h1
    exact h1 rfl
  · rw [if_neg c]; omega
theorem cls_b {f : Int} (h : isF f) (w : Nat) : 1 ≤ cls f w ∧ cls f w ≤ 5 := by
  rw [cls_eq h]; split
  · split <;> omega
  · split
    · omega
    · split <;> omega
theorem wmag_bl {f : Int} (h : isF f) (w : Nat) : bl (wmag f w) ≤ pr f := by
  have h1 := wfrac_lt f w
  have h2 := pr_eq h
  refine bl_le_of_lt ?_
  rw [h2, Nat.pow_succ]
  unfold wmag; split <;> omega
theorem w_sv {s : Bool} {n : Nat} (h : n ≠ 0) : decide (sv s n < 0) = s ∧ (sv s n).natAbs = n ∧ sv s n ≠ 0 := ⟨sv_neg h, sv_abs s n, fun h2 => h (sv_eq_zero.1 h2)⟩
/-! ### errors ahead -/
theorem word_Class_bad {f : Int} (h : isF f) {w : Nat} (hw : ¬ w < 2 * sg f) : Ev (fun k => word_Class.f k f (w : Int)) (0, 6) := by
  have ho := word_open_one h w
  unfold goodE at ho
  rw [if_neg hw] at ho
  unfold word_Class.f
  refine Ev.bind (ho) ?_; try dsimp only
  exact ev_pos (by simp) (Ev.now _)
/-! ### To -/
end Go.Proofs.YtbcjdlljmhfhdaaGreatDoor.Eng.K

/- Remainders, the reference: cuts, quotients, the nearest whole number. -/
set_option linter.unusedVariables false
set_option linter.unusedSimpArgs false
namespace Go.Proofs.YtbcjdlljmhfhdaaGreatDoor.Eng.K
open Go.RowKit

theorem mz_abs {z : Int} (h : z ≠ 0) (e : Int) : ∃ j : Nat, z.natAbs = V (mk z e).2.1 * 2 ^ j ∧ (mk z e).2.2 = e + j ∧ (mk z e).1 = decide (z < 0) ∧ V (mk z e).2.1 ≠ 0 := by
  have hza : z.natAbs ≠ 0 := by omega
  obtain ⟨q, hq⟩ := lw_is hza
  have hd : z.natAbs / 2 ^ lw z.natAbs = 2 * q + 1 := by
    have : z.natAbs / 2 ^ lw z.natAbs = 2 ^ lw z.natAbs * (2 * q + 1) / 2 ^ lw z.natAbs := by rw [← hq]
    rw [this, Nat.mul_div_cancel_left _ (pw_pos _)]
  have hm : mk z e = (decide (z < 0), D (z.natAbs / 2 ^ lw z.natAbs), e + (lw z.natAbs : Nat)) := by unfold mk; rw [if_neg h]
  refine ⟨lw z.natAbs, ?_, by rw [hm], by rw [hm], ?_⟩
  · rw [hm]
    show _ = V (D _) * _
    rw [V_D, hd, Nat.mul_comm]; exact hq
  · rw [hm]
    show V (D _) ≠ 0
    rw [V_D, hd]; omega
end Go.Proofs.YtbcjdlljmhfhdaaGreatDoor.Eng.K

/- Remainders of words, both ways; what is known. -/
set_option linter.unusedVariables false
set_option linter.unusedSimpArgs false
namespace Go.Proofs.YtbcjdlljmhfhdaaGreatDoor.Eng.K
open Go.RowKit

/-- A finite word's number, in its one form. -/
def wv (f : Int) (w : Nat) : Bool × List Int × Int := mk (sv (wneg f w) (wmag f w)) (wex f w)
structure Wv (f : Int) (w : Nat) : Prop where
  dy : Dy (wv f w).1 (wv f w).2.1 (wv f w).2.2
  ne : V (wv f w).2.1 ≠ 0
  b : bl (V (wv f w).2.1) ≤ pr f
  lo : lo f ≤ (wv f w).2.2
  hi : (wv f w).2.2 + (bl (V (wv f w).2.1) : Nat) = wex f w + (bl (wmag f w) : Nat)
  s : (wv f w).1 = wneg f w
theorem fin_top {f : Int} (h : isF f) {w : Nat} (h2 : cls f w < 4) : wex f w + (bl (wmag f w) : Nat) ≤ wd f := by
  rw [cls_eq h] at h2
  have h3 := wmag_bl h w
  have h4 := fits_room h
  have h5 := wfrac_lt f w
  have h6 := pr_eq h
  have h7 := mo_ge h
  have hlo := lo_b h
  have hwd := wd_b h
  by_cases c : wexpo f w = 0
  · unfold wex; rw [if_pos c]
    have := fb_le h
    omega
  · rw [if_neg c] at h2
    have : wexpo f w < mo f := by
      rcases Nat.lt_or_ge (wexpo f w) (mo f) with c2 | c2
      · exact c2
      · rw [if_neg (by omega)] at h2; split at h2 <;> omega
    unfold wex; rw [if_neg c]
    omega
theorem wv_ok {f : Int} (h : isF f) {w : Nat} (h1 : cls f w ≠ 1) (h2 : cls f w < 4) : Wv f w := by
  have hn := cls_num h h1 h2
  obtain ⟨a1, a2, a3⟩ := w_sv (s := wneg f w) hn
  obtain ⟨j, j1, j2, j3, j4⟩ := mz_abs a3 (wex f w)
  have hb := wmag_bl h w
  have hl : lo f ≤ wex f w := by
    unfold wex
    split <;> omega
  rw [a2] at j1
  have hbl : bl (wmag f w) = bl (V (wv f w).2.1) + j := by rw [j1]; exact bl_up j4 j
  have e2 : (wv f w).2.2 = wex f w + j := j2
  refine ⟨Dy_mk _ _, j4, by omega, by omega, by omega, ?_⟩
  show (mk _ _).1 = _
  rw [j3, a1]
theorem wv_b {f : Int} (h : isF f) {w : Nat} (hw : Wv f w) (h2 : cls f w < 4) : -5000 ≤ (wv f w).2.2 ∧ (wv f w).2.2 ≤ 5000 ∧ bl (V (wv f w).2.1) ≤ 64 := by
  have := hw.lo
  have := hw.hi
  have := hw.b
  have := lo_b h
  have := wd_b h
  have := fin_top h h2
  have := pr_eq h
  have := fb_le h
  refine ⟨by omega, by omega, by omega⟩
/-! ### the reference -/
/-! ### what is known -/
end Go.Proofs.YtbcjdlljmhfhdaaGreatDoor.Eng.K

/- ConvFormats and ConvRemainders: for every input they answer true. -/
set_option linter.unusedVariables false
set_option linter.unusedSimpArgs false
namespace Go.Proofs.YtbcjdlljmhfhdaaGreatDoor.Eng.K
open Go.RowKit

theorem u64_nat {n : Int} (h : IntKind.u64.min ≤ n ∧ n ≤ IntKind.u64.max) : ∃ w : Nat, n = (w : Int) ∧ w < 18446744073709551616 := by
  simp [IntKind.min, IntKind.max, IntKind.signed, IntKind.bits] at h
  exact ⟨n.toNat, by omega, by omega⟩
end Go.Proofs.YtbcjdlljmhfhdaaGreatDoor.Eng.K

/- Words times powers of two, and their parts, both ways. -/
set_option linter.unusedVariables false
set_option linter.unusedSimpArgs false
namespace Go.Proofs.YtbcjdlljmhfhdaaGreatDoor.Eng.K
open Go.RowKit

/-! ### parts -/
theorem word_Class_badf {f : Int} (h : ¬ isF f) (w : Int) : Ev (fun k => word_Class.f k f w) (0, 4) := by
  unfold word_Class.f
  refine Ev.bind (word_open_bad h _) ?_; try dsimp only
  exact ev_pos (by simp) (Ev.now _)
/-! ### the law -/
end Go.Proofs.YtbcjdlljmhfhdaaGreatDoor.Eng.K

/- The digits of a word to the base 16, small numbers' decimal texts. -/
set_option linter.unusedVariables false
set_option linter.unusedSimpArgs false
namespace Go.Proofs.YtbcjdlljmhfhdaaGreatDoor.Eng.K
open Go.RowKit Go.Proofs Go.Proofs.YtbcjdlljmhfhdaaGreatDoor.Eng
set_option maxRecDepth 100000
/-- a small number's decimal text -/
def dtxF : Nat → Nat → List UInt8
  | 0, _ => []
  | k + 1, n => (if n < 10 then [] else dtxF k (n / 10)) ++ [UInt8.ofNat (48 + n % 10)]
def dtx (n : Nat) : List UInt8 := dtxF 6 n
def etx (e : Int) : List UInt8 := (if e < 0 then [45] else []) ++ dtx e.natAbs
def isTx (o : Option ByteArray) (l : List UInt8) : Bool := match o with | some t => tl t == l | none => false
theorem isTx_ev {g : Nat → Option ByteArray} {l : List UInt8} {n : Nat} (h : ∀ k, isTx (g (k + n)) l = true) : ∃ t, Ev g t ∧ tl t = l := by
  have h0 := h 0
  unfold isTx at h0
  split at h0
  · rename_i t ht
    have e0 : tl t = l := by simpa using h0
    refine ⟨t, ⟨n, fun k hk => ?_⟩, e0⟩
    have h1 := h (k - n)
    rw [Nat.sub_add_cancel hk] at h1
    unfold isTx at h1
    split at h1
    · rename_i u hu
      have e1 : tl u = l := by simpa using h1
      rw [hu, tl_inj.1 (e1.trans e0.symm)]
    · cases h1
  · cases h0
def itoaC (a : Int) (k : Nat) : Bool := (List.range 275).all (fun i => isTx (strconv_Itoa.f (k + 40) (a + (i : Int))) (etx (a + (i : Int))))
theorem itoa_0 (k : Nat) : itoaC (-1100) k = true := by kernel_rfl
theorem itoa_1 (k : Nat) : itoaC (-825) k = true := by kernel_rfl
theorem itoa_2 (k : Nat) : itoaC (-550) k = true := by kernel_rfl
theorem itoa_3 (k : Nat) : itoaC (-275) k = true := by kernel_rfl
theorem itoa_4 (k : Nat) : itoaC (0) k = true := by kernel_rfl
theorem itoa_5 (k : Nat) : itoaC (275) k = true := by kernel_rfl
theorem itoa_6 (k : Nat) : itoaC (550) k = true := by kernel_rfl
theorem itoa_7 (k : Nat) : itoaC (825) k = true := by kernel_rfl
theorem itoa_all (k : Nat) {e : Int} (h1 : -1100 ≤ e) (h2 : e < 1100) : isTx (strconv_Itoa.f (k + 40) e) (etx e) = true := by
  have go : ∀ a, itoaC a k = true → a ≤ e → e < a + 275 → isTx (strconv_Itoa.f (k + 40) e) (etx e) = true := by
    intro a h h3 h4
    have h := List.all_eq_true.1 h (e - a).toNat (List.mem_range.2 (by omega))
    have he : a + (((e - a).toNat : Nat) : Int) = e := by omega
    rw [he] at h
    exact h
  by_cases c0 : e < -825
  · exact go _ (itoa_0 k) (by omega) (by omega)
  by_cases c1 : e < -550
  · exact go _ (itoa_1 k) (by omega) (by omega)
  by_cases c2 : e < -275
  · exact go _ (itoa_2 k) (by omega) (by omega)
  by_cases c3 : e < 0
  · exact go _ (itoa_3 k) (by omega) (by omega)
  by_cases c4 : e < 275
  · exact go _ (itoa_4 k) (by omega) (by omega)
  by_cases c5 : e < 550
  · exact go _ (itoa_5 k) (by omega) (by omega)
  by_cases c6 : e < 825
  · exact go _ (itoa_6 k) (by omega) (by omega)
  exact go _ (itoa_7 k) (by omega) (by omega)
def textC (a : Nat) (k : Nat) : Bool := (List.range 220).all (fun i => isTx (cutplaneref01_Text.f (k + 60) (if a + i = 0 then [] else [((a + i : Nat) : Int)])) (dtx (a + i)))
theorem text_0 (k : Nat) : textC 0 k = true := by kernel_rfl
theorem text_1 (k : Nat) : textC 220 k = true := by kernel_rfl
theorem text_2 (k : Nat) : textC 440 k = true := by kernel_rfl
theorem text_3 (k : Nat) : textC 660 k = true := by kernel_rfl
theorem text_4 (k : Nat) : textC 880 k = true := by kernel_rfl
theorem text_all (k : Nat) {n : Nat} (h2 : n < 1100) : isTx (cutplaneref01_Text.f (k + 60) (if n = 0 then [] else [(n : Int)])) (dtx n) = true := by
  have go : ∀ a, textC a k = true → a ≤ n → n < a + 220 → isTx (cutplaneref01_Text.f (k + 60) (if n = 0 then [] else [(n : Int)])) (dtx n) = true := by
    intro a h h3 h4
    have h := List.all_eq_true.1 h (n - a) (List.mem_range.2 (by omega))
    have he : a + (n - a) = n := by omega
    rw [he] at h
    exact h
  by_cases c0 : n < 220
  · exact go _ (text_0 k) (by omega) (by omega)
  by_cases c1 : n < 440
  · exact go _ (text_1 k) (by omega) (by omega)
  by_cases c2 : n < 660
  · exact go _ (text_2 k) (by omega) (by omega)
  by_cases c3 : n < 880
  · exact go _ (text_3 k) (by omega) (by omega)
  exact go _ (text_4 k) (by omega) (by omega)
theorem exp_all : (List.range 2200).all (fun i => expOk (etx ((i : Int) - 1100)) && decide (expV (etx ((i : Int) - 1100)) = (i : Int) - 1100)) = true := by decide +kernel
theorem Itoa_ev {e : Int} (h1 : -1100 ≤ e) (h2 : e < 1100) : ∃ t, Ev (fun k => strconv_Itoa.f k e) t ∧ tl t = etx e := by
  refine isTx_ev (n := 40) fun k => ?_
  exact itoa_all k h1 h2
theorem rText_small {n : Nat} (h : n < 1100) : ∃ t, Ev (fun k => cutplaneref01_Text.f k (D n)) t ∧ tl t = dtx n := by
  refine isTx_ev (n := 60) fun k => ?_
  have h := text_all k h
  have he : (if n = 0 then [] else [(n : Int)]) = D n := by
    by_cases c : n = 0
    · subst c; rw [if_pos rfl, D_zero]
    · rw [if_neg c, D_pos c, Nat.mod_eq_of_lt (by omega), Nat.div_eq_of_lt (by omega), D_zero]
  rw [he] at h
  exact h
theorem etx_exp {e : Int} (h1 : -1100 ≤ e) (h2 : e < 1100) : expOk (etx e) = true ∧ expV (etx e) = e := by
  have h := List.all_eq_true.1 exp_all (e + 1100).toNat (List.mem_range.2 (by omega))
  have he : (((e + 1100).toNat : Nat) : Int) - 1100 = e := by omega
  rw [he, Bool.and_eq_true, decide_eq_true_eq] at h
  exact h
/-! ### digits to the base 16 -/
theorem hexl_cons (c m : Nat) : hexl (c + 1) m = hdig (m / 16 ^ c % 16) :: hexl c m := by
  induction c generalizing m with
  | zero => simp [hexl]
  | succ c ih =>
    rw [hexl, ih, hexl, Nat.div_div_eq_div_mul, Nat.pow_succ, Nat.mul_comm 16]
    rfl
def hexi (c m : Nat) : List Int := (hexl c m).map fun b => (b.toNat : Int)
theorem hexi_cons (c m : Nat) : hexi (c + 1) m = ((hdig (m / 16 ^ c % 16)).toNat : Int) :: hexi c m := by unfold hexi; rw [hexl_cons]; rfl
theorem tl_hexi (c m : Nat) : tl (strOf (hexi c m)) = hexl c m := by
  rw [tl_strOf, hexi, List.map_map]
  conv => rhs; rw [← List.map_id (hexl c m)]
  refine List.map_congr_left fun b _ => ?_
  simp
theorem tx_hdig {d : Nat} (h : d < 16) : bt tx_699cd95d (d : Int) = ((hdig d).toNat : Int) := by
  have : ∀ d : Fin 16, bt tx_699cd95d (d.1 : Int) = ((hdig d.1).toNat : Int) := by decide +kernel
  exact this ⟨d, h⟩
theorem set_drop {a r : List Int} {i : Nat} {d : Int} (h : a.drop (i + 1) = r) (hi : i < a.length) : (a.set i d).drop i = d :: r := by
  rw [List.drop_set, if_neg (by omega), Nat.sub_self]
  have h2 : a.drop i = a[i] :: a.drop (i + 1) := List.drop_eq_getElem_cons hi
  rw [h2, h]
  rfl
theorem fb_end {a : List Int} {i : Nat} (ha : a.length = 65) (hi : i ≤ 65) : Ev (fun k => istrconv_formatBits.j5 k [] false false [] ⟨#[]⟩ a (i : Int)) ([], strOf (a.drop i)) := by
  refine ev_step ?_; simp only [istrconv_formatBits.j5]
  refine ev_neg (by simp) ?_
  refine ev_step ?_; simp only [istrconv_formatBits.j6]
  refine ev_neg (by simp) (ev_pos (by omega) (ev_pos (by omega) (ev_pos (by omega) ?_)))
  rw [Int.toNat_natCast]
  exact Ev.now _
theorem fb_l0 {m : Nat} : ∀ (n c : Nat) (a : List Int), c + n ≤ 60 → m / 16 ^ c < 16 ^ (n + 1) → m / 16 ^ c < 18446744073709551616 → a.length = 65 → a.drop (65 - c) = hexi c m →
    ∃ t j, Ev (fun k => istrconv_formatBits.l0 k [] ((m / 16 ^ c : Nat) : Int) false false [] ⟨#[]⟩ a ((65 - c : Nat) : Int) 4 16 15) ([], t) ∧ tl t = hexl j m ∧ m < 16 ^ j ∧ j ≤ c + n + 1
  | n, c, a, hc, hu, hm, ha, hd => by
    have hw : wrap64 (((65 - c : Nat) : Int) - 1) = ((64 - c : Nat) : Int) := by rw [w64 (by omega) (by omega)]; omega
    have hset : ∀ d : Int, (a.set (64 - c) d).drop (64 - c) = d :: hexi c m := fun d => set_drop (by rw [← hd, show 64 - c + 1 = 65 - c by omega]) (by omega)
    have htx : tx_699cd95d.size = 36 := by decide +kernel
    obtain ⟨u, hU⟩ : ∃ u, u = m / 16 ^ c := ⟨_, rfl⟩
    have hnext : m / 16 ^ (c + 1) = u / 16 := by rw [hU, Nat.pow_succ, ← Nat.div_div_eq_div_mul]
    rw [← hU] at hu hm ⊢
    by_cases c1 : u < 16
    · refine ⟨strOf (hexi (c + 1) m), c + 1, ?_, tl_hexi _ _, ?_, by omega⟩
      · refine ev_step ?_; simp only [istrconv_formatBits.l0]
        refine ev_neg (by omega) (ev_pos (by omega) (ev_pos (by omega) (ev_pos (by omega) ?_)))
        rw [hw]
        refine ev_pos (by omega) (ev_pos (by omega) ?_)
        rw [Int.toNat_natCast, tx_hdig c1]
        refine ev_eq (fb_end (by rw [List.length_set]; exact ha) (by omega)) ?_
        rw [hset, hexi_cons, ← hU, Nat.mod_eq_of_lt c1]
      · rw [hU] at c1
        rw [Nat.pow_succ, Nat.mul_comm]
        exact (Nat.div_lt_iff_lt_mul (Nat.pow_pos (by omega))).1 c1
    · cases n with
      | zero => simp at hu; omega
      | succ n =>
        obtain ⟨t, j, h1, h2, h3, h4⟩ := fb_l0 (m := m) n (c + 1) (a.set (64 - c) ((hdig (u % 16)).toNat : Int)) (by omega) (by rw [hnext]; rw [Nat.pow_succ] at hu; omega) (by rw [hnext]; omega) (by rw [List.length_set]; exact ha)
          (by rw [show 65 - (c + 1) = 64 - c by omega, hset, hexi_cons, ← hU])
        refine ⟨t, j, ?_, h2, h3, by omega⟩
        rw [hnext] at h1
        have hand : Go.bits .and .u64 (u : Int) 15 = ((u % 16 : Nat) : Int) := and_low u 4 hm (by omega)
        have hshr : shr .u64 (u : Int) 4 = ((u / 16 : Nat) : Int) := shr_n (k := .u64) u 4 (by decide)
        refine ev_step ?_; simp only [istrconv_formatBits.l0]
        rw [hand, hshr, hw]
        refine ev_pos (by omega) (ev_pos (by omega) (ev_pos (by omega) (ev_pos (by omega) (ev_pos (by omega) (ev_pos (by omega) ?_)))))
        rw [Int.toNat_natCast, tx_hdig (by omega)]
        rw [show ((65 - (c + 1) : Nat) : Int) = ((64 - c : Nat) : Int) by omega] at h1
        exact h1
theorem FormatUint_ev {m : Nat} (hm : m < 18446744073709551616) : ∃ t j, Ev (fun k => strconv_FormatUint.f k (m : Int) 16) t ∧ tl t = hexl j m ∧ m < 16 ^ j ∧ j ≤ 16 := by
  obtain ⟨t, j, h1, h2, h3, h4⟩ := fb_l0 (m := m) 15 0 (List.replicate 65 0) (by omega) (by simpa using hm) (by simpa using hm) (by simp) (by simp [hexi, hexl])
  refine ⟨t, j, ?_, h2, h3, by omega⟩
  rw [Nat.pow_zero, Nat.div_one] at h1
  unfold strconv_FormatUint.f istrconv_FormatUint.f
  refine Ev.bind (ev_neg (by omega) (Ev.bind (a := (([] : List Int), t)) ?_ (Ev.now _))) (Ev.now _)
  unfold istrconv_formatBits.f
  refine ev_neg (by omega) (ev_neg (by omega) (ev_neg (by omega) (ev_neg (by simp) ?_)))
  refine ev_step ?_; simp only [istrconv_formatBits.j2]
  have hp : istrconv_isPowerOfTwo.f 16 = some true := by decide +kernel
  refine ev_bind hp (ev_pos rfl ?_)
  have hz : bits_TrailingZeros.f (IntKind.u64.wrap 16) = some 4 := by decide +kernel
  refine ev_bind hz ?_
  exact h1
theorem repeatL_one (b : UInt8) : ∀ n, Lib.repeatL [b] n = List.replicate n b
  | 0 => rfl
  | n + 1 => by rw [Lib.repeatL, repeatL_one b n]; rfl
theorem digits_ev {m n : Nat} (hm : m < 18446744073709551616) (hn : n ≤ 16) : ∃ t, Ev (fun k => hexa_digits.f k (m : Int) (n : Int)) t ∧ tl t = hexl n (m / 16 ^ (16 - n)) := by
  obtain ⟨s, j, h1, h2, h3, h4⟩ := FormatUint_ev hm
  have hs : s.size = j := by rw [tl_size_eq, h2, hexl_len]
  obtain ⟨p, hp, hp2⟩ : ∃ p, strings_Repeat.f (⟨#[48]⟩ : ByteArray) (wrap64 (16 - (s.size : Int))) = some p ∧ tl p = List.replicate (16 - j) 48 := by
    refine ⟨⟨(Lib.repeatL [48] (16 - j)).toArray⟩, ?_, by rw [tl_mk, repeatL_one]⟩
    unfold strings_Repeat.f
    have e : wrap64 (16 - (s.size : Int)) = ((16 - j : Nat) : Int) := by rw [w64 (by omega) (by omega), hs]; omega
    rw [e, if_pos ⟨by omega, by rw [Int.toNat_natCast]; show 1 * (16 - j) ≤ _; omega, by omega⟩]
    rw [Int.toNat_natCast]
  have hps : p.size = 16 - j := by rw [tl_size_eq, hp2]; simp
  have hall : tl (p ++ s) = hexl 16 m := by
    rw [tl_app, hp2, h2, ← hexl_pad h3, show j + (16 - j) = 16 by omega]
  have has : (p ++ s).size = 16 := by rw [tl_size_eq, hall, hexl_len]
  refine ⟨(p ++ s).extract 0 n, ?_, ?_⟩
  · unfold hexa_digits.f
    refine Ev.bind h1 (ev_bind hp (ev_pos (by omega) (ev_pos (by omega) (ev_pos (by rw [has]; omega) ?_))))
    rw [Int.toNat_natCast]
    exact Ev.now _
  · rw [tl_ext, hall, List.drop_zero, hexl_take hn]
end Go.Proofs.YtbcjdlljmhfhdaaGreatDoor.Eng.K

/- The text of a word to the base 16: the program and the document. -/
set_option linter.unusedVariables false
set_option linter.unusedSimpArgs false
namespace Go.Proofs.YtbcjdlljmhfhdaaGreatDoor.Eng.K
open Go.RowKit Go.Proofs Go.Proofs.YtbcjdlljmhfhdaaGreatDoor.Eng
/-- behind the first bit of an odd number there stand so many; its digits -/
def frac (z : Nat) : List UInt8 := if bl z - 1 = 0 then [] else 46 :: hexl ((bl z - 1 + 3) / 4) (z * 2 ^ (4 * ((bl z - 1 + 3) / 4) - (bl z - 1)))
def sgT (s : Bool) : List UInt8 := if s = true then [45] else []
def numT (s : Bool) (z : Nat) (e : Int) : List UInt8 := sgT s ++ [48, 120, 49] ++ frac z ++ 112 :: etx (e + (bl z : Nat) - 1)
def prS (f : Int) (w : Nat) : List UInt8 :=
  if cls f w = 5 then [110, 97, 110] else if cls f w = 4 then sgT (wneg f w) ++ [105, 110, 102] else if cls f w = 1 then sgT (wneg f w) ++ [48, 120, 48, 112, 48]
  else numT (wneg f w) (V (wv f w).2.1) (wv f w).2.2
theorem sgT_len (s : Bool) : (sgT s).length ≤ 1 := by unfold sgT; split <;> simp
/-- the digits behind the point, as the program takes them -/
theorem frac_eq {z n : Nat} (hn : n ≤ 60) (h0 : 0 < n) : hexl ((n + 3) / 4) (z * 2 ^ (64 - n) % 18446744073709551616 / 16 ^ (16 - (n + 3) / 4)) = hexl ((n + 3) / 4) (z * 2 ^ (4 * ((n + 3) / 4) - n)) := by
  obtain ⟨c, hc⟩ : ∃ c, c = (n + 3) / 4 := ⟨_, rfl⟩
  rw [← hc]
  have e1 : (18446744073709551616 : Nat) = 16 ^ (16 - c) * 16 ^ c := by rw [← Nat.pow_add, show 16 - c + c = 16 by omega]
  have e2 : z * 2 ^ (64 - n) = z * 2 ^ (4 * c - n) * 16 ^ (16 - c) := by
    have h : (16 : Nat) ^ (16 - c) = 2 ^ (4 * (16 - c)) := by rw [Nat.pow_mul]
    rw [h, Nat.mul_assoc, ← Nat.pow_add, show 4 * c - n + 4 * (16 - c) = 64 - n by omega]
  rw [e1, Nat.mod_mul_right_div_self, e2, Nat.mul_div_cancel _ (Nat.pow_pos (by omega)), hexl_mod]
theorem Print_j4 {s : Bool} {l : List Int} {e : Int} (hm : My s l e) (hn : V l ≠ 0) (h1 : -1100 ≤ e + (bl (V l) : Nat) - 1) (h2 : e + (bl (V l) : Nat) - 1 < 1100) (t : ByteArray) (ht : t.size ≤ 1000) :
    ∃ r, Ev (fun k => hexa_Print.j4 k t s l e) (r, 0) ∧ tl r = tl t ++ 112 :: etx (e + (bl (V l) : Nat) - 1) := by
  obtain ⟨u, hu, hu2⟩ := Itoa_ev h1 h2
  refine ⟨t ++ ⟨#[112]⟩ ++ u, ?_, by rw [tl_app, tl_app, hu2, List.append_assoc]; rfl⟩
  have hus : u.size ≤ 20 := by
    rw [tl_size_eq, hu2]
    have := (etx_exp h1 h2).1
    simp only [expOk, Bool.and_eq_true, decide_eq_true_eq] at this
    have h3 : (etx (e + (bl (V l) : Nat) - 1)).length ≤ (expR (etx (e + (bl (V l) : Nat) - 1))).length + 1 := by
      have h4 : ∀ l : List UInt8, l.length ≤ (expR l).length + 1 := by
        intro l; unfold expR; split
        · simp
        · simp
        · omega
      exact h4 _
    omega
  have htop : top (sv s (V l)) e = e + (bl (V l) : Nat) := by
    unfold top
    rw [if_neg (fun h => hn (sv_eq_zero.1 h)), sv_abs]
  have hT := dyad_Top_ev hm
  rw [htop] at hT
  refine ev_step ?_; simp only [hexa_Print.j4]
  have hz : (t ++ (⟨#[112]⟩ : ByteArray)).size = t.size + 1 := by rw [ByteArray.size_append]; rfl
  refine ev_pos (show t.size + 1 < 35184372088832 by omega) (Ev.bind hT ?_)
  rw [w64 (n := e + (bl (V l) : Nat) - 1) (by omega) (by omega)]
  refine Ev.bind hu (ev_pos (by omega) (Ev.now _))
theorem Print_num {f w : Int} {c : Int} {s : Bool} {l : List Int} {e : Int} (hv : Ev (fun k => word_Value.f k f w) (s, l, e, 0)) (hm : My s l e) (hn : V l ≠ 0) (hb : bl (V l) ≤ 53) (h1 : -1100 ≤ e + (bl (V l) : Nat) - 1) (h2 : e + (bl (V l) : Nat) - 1 < 1100)
    (c1 : c ≠ 1) (c4 : c < 4) (b : Bool) (t : ByteArray) (ht : tl t = sgT b) : ∃ r, Ev (fun k => hexa_Print.j2 k f w c t) (r, 0) ∧ tl r = numT b (V l) e := by
  have hts : t.size ≤ 1 := by rw [tl_size_eq, ht]; exact sgT_len b
  have hz : (t ++ (⟨#[48, 120, 49]⟩ : ByteArray)).size = t.size + 3 := by rw [ByteArray.size_append]; rfl
  have hp := bl_pos hn
  have hlt : V l < 18446744073709551616 := Nat.lt_of_lt_of_le (lt_bl _) (Nat.le_trans (Nat.pow_le_pow_right (by omega) (by omega : bl (V l) ≤ 64)) (by decide))
  have hlen := hm.len
  have hwn : wrap64 (((bl (V l) : Nat) : Int) - 1) = ((bl (V l) - 1 : Nat) : Int) := by rw [w64 (by omega) (by omega)]; omega
  have hgo : ∀ {r}, Ev (fun k => if (wrap64 (((bl (V l) : Nat) : Int) - 1)) > 0 then ((nat_Num.f k l).bind fun t153 => (if 0 ≤ (wrap64 (64 - (wrap64 (((bl (V l) : Nat) : Int) - 1)))) then ((hexa_digits.f k (shl .u64 t153.1 (wrap64 (64 - (wrap64 (((bl (V l) : Nat) : Int) - 1))))) (wrap64 (Int.tdiv (wrap64 ((wrap64 (((bl (V l) : Nat) : Int) - 1)) + 3)) 4))).bind fun t154 => (if (⟨#[46]⟩ : ByteArray).size + t154.size < 35184372088832 then (if (t ++ (⟨#[48, 120, 49]⟩ : ByteArray)).size + ((⟨#[46]⟩ : ByteArray) ++ t154).size < 35184372088832 then (hexa_Print.j4 k ((t ++ (⟨#[48, 120, 49]⟩ : ByteArray)) ++ ((⟨#[46]⟩ : ByteArray) ++ t154)) s l e) else (none)) else (none))) else (none))) else (hexa_Print.j4 k (t ++ (⟨#[48, 120, 49]⟩ : ByteArray)) s l e)) r → Ev (fun k => hexa_Print.j2 k f w c t) r := by
    intro r h
    refine ev_step ?_; simp only [hexa_Print.j2]
    exact ev_neg (by omega) (ev_neg c1 (Ev.bind hv (ev_pos (show t.size + 3 < 35184372088832 by omega) (Ev.bind (nat_Len_ev hm.dy.nm hlen) h))))
  rw [hwn] at hgo
  by_cases c0 : bl (V l) - 1 = 0
  · obtain ⟨r, hr, hr2⟩ := Print_j4 hm hn h1 h2 (t ++ (⟨#[48, 120, 49]⟩ : ByteArray)) (by omega)
    refine ⟨r, hgo (ev_neg (by omega) hr), ?_⟩
    rw [hr2, tl_app, ht]
    unfold numT frac
    rw [if_pos c0, List.append_nil]
    rfl
  · obtain ⟨n, hN⟩ : ∃ n, n = bl (V l) - 1 := ⟨_, rfl⟩
    rw [← hN] at hgo c0
    have hw1 : wrap64 (64 - (n : Int)) = ((64 - n : Nat) : Int) := by rw [w64 (by omega) (by omega)]; omega
    have hw2 : wrap64 (Int.tdiv (wrap64 ((n : Int) + 3)) 4) = (((n + 3) / 4 : Nat) : Int) := by
      rw [w64 (n := (n : Int) + 3) (by omega) (by omega), show ((n : Int) + 3) = ((n + 3 : Nat) : Int) by omega, show (4 : Int) = ((4 : Nat) : Int) from rfl, tdiv_n, w64 (by omega) (by omega)]
    have hsh : shl .u64 ((V l : Nat) : Int) ((64 - n : Nat) : Int) = ((V l * 2 ^ (64 - n) % 18446744073709551616 : Nat) : Int) := by
      unfold shl
      have hm : min ((64 - n : Nat) : Int).toNat IntKind.u64.bits = 64 - n := by have : IntKind.u64.bits = 64 := rfl; omega
      rw [hm, u64m, pow_cast]
      omega
    obtain ⟨d, hd, hd2⟩ := digits_ev (m := V l * 2 ^ (64 - n) % 18446744073709551616) (n := (n + 3) / 4) (Nat.mod_lt _ (by omega)) (by omega)
    have hds : d.size = (n + 3) / 4 := by rw [tl_size_eq, hd2, hexl_len]
    have hz2 : ((⟨#[46]⟩ : ByteArray) ++ d).size = 1 + d.size := by rw [ByteArray.size_append]; rfl
    have hz3 : (t ++ (⟨#[48, 120, 49]⟩ : ByteArray) ++ ((⟨#[46]⟩ : ByteArray) ++ d)).size = t.size + 3 + (1 + d.size) := by rw [ByteArray.size_append, hz, hz2]
    obtain ⟨r, hr, hr2⟩ := Print_j4 hm hn h1 h2 (t ++ (⟨#[48, 120, 49]⟩ : ByteArray) ++ ((⟨#[46]⟩ : ByteArray) ++ d)) (by omega)
    have hNum := nat_Num_ev hm.dy.nm.dg (by omega)
    rw [numB_small hm.dy.nm hlt] at hNum
    refine ⟨r, hgo (ev_pos (by omega) (Ev.bind hNum ?_)), ?_⟩
    · rw [hw1, hw2]
      simp only [if_true]
      rw [hsh]
      exact ev_pos (by omega) (Ev.bind hd (ev_pos (show 1 + d.size < 35184372088832 by omega) (ev_pos (by omega) hr)))
    · rw [hr2, tl_app, tl_app, tl_app, ht, hd2, frac_eq (by omega) (by omega)]
      unfold numT frac
      rw [← hN, if_neg c0]
      simp [tl]
structure Pr (f : Int) (w : Nat) : Prop where
  my : My (wv f w).1 (wv f w).2.1 (wv f w).2.2
  ne : V (wv f w).2.1 ≠ 0
  b : bl (V (wv f w).2.1) ≤ 53
  lo : -1074 ≤ (wv f w).2.2
  hi : (wv f w).2.2 + (bl (V (wv f w).2.1) : Nat) ≤ 1024
  s : (wv f w).1 = wneg f w
theorem pr_ok {f : Int} (h : isF f) {w : Nat} (c1 : cls f w ≠ 1) (c4 : cls f w < 4) : Pr f w := by
  have W := wv_ok h c1 c4
  have hb := wv_b h W c4
  have hpr : pr f ≤ 53 := by rcases h with rfl | rfl <;> decide
  have hWb := W.b
  have hft := fin_top h c4
  have hwd : wd f ≤ 1024 := by rcases h with rfl | rfl <;> decide
  have hlo := lo_b h
  have hWlo := W.lo
  have hWhi := W.hi
  refine ⟨⟨W.dy, ?_, by omega, by omega⟩, W.ne, by omega, by omega, by omega, W.s⟩
  have hl := W.dy.nm.len
  have h2 : V (wv f w).2.1 < 4294967296 ^ 2 := Nat.lt_of_lt_of_le (lt_bl _) (Nat.le_trans (Nat.pow_le_pow_right (by omega) (by omega : bl (V (wv f w).2.1) ≤ 64)) (by decide))
  have h3 := D_lt h2
  omega
theorem Print_ev {f : Int} (h : isF f) {w : Nat} (hw : w < 2 * sg f) : ∃ r, Ev (fun k => hexa_Print.f k f (w : Int)) (r, 0) ∧ tl r = prS f w := by
  have hcb := cls_b h w
  have hgo : ∀ {t r : ByteArray}, cls f w ≠ 5 → tl t = sgT (wneg f w) → Ev (fun k => hexa_Print.j2 k f (w : Int) (cls f w) t) (r, 0) → Ev (fun k => hexa_Print.f k f (w : Int)) (r, 0) := by
    intro t r h5 ht hr
    unfold hexa_Print.f
    refine Ev.bind (word_Class_ev h hw) (ev_neg (by simp) (ev_neg h5 (Ev.bind (word_Split_ev h hw) ?_)))
    unfold sgT at ht
    cases hn : wneg f w with
    | true =>
      rw [hn, if_pos rfl] at ht
      have : t = ⟨#[45]⟩ := tl_inj.1 ht
      rw [this] at hr
      exact ev_pos rfl hr
    | false =>
      rw [hn, if_neg (by simp)] at ht
      have : t = ⟨#[]⟩ := tl_nil.1 ht
      rw [this] at hr
      exact ev_neg (by simp) hr
  unfold prS
  by_cases c5 : cls f w = 5
  · rw [if_pos c5]
    refine ⟨⟨#[110, 97, 110]⟩, ?_, rfl⟩
    unfold hexa_Print.f
    exact Ev.bind (word_Class_ev h hw) (ev_neg (by simp) (ev_pos c5 (Ev.now _)))
  rw [if_neg c5]
  obtain ⟨t, ht⟩ : ∃ t : ByteArray, tl t = sgT (wneg f w) := ⟨⟨(sgT (wneg f w)).toArray⟩, rfl⟩
  have hts : t.size ≤ 1 := by rw [tl_size_eq, ht]; exact sgT_len _
  by_cases c4 : cls f w = 4
  · rw [if_pos c4]
    refine ⟨t ++ ⟨#[105, 110, 102]⟩, hgo c5 ht ?_, by rw [tl_app, ht]; rfl⟩
    refine ev_step ?_; simp only [hexa_Print.j2]
    exact ev_pos c4 (ev_pos (show t.size + 3 < 35184372088832 by omega) (Ev.now _))
  rw [if_neg c4]
  by_cases c1 : cls f w = 1
  · rw [if_pos c1]
    refine ⟨t ++ ⟨#[48, 120, 48, 112, 48]⟩, hgo c5 ht ?_, by rw [tl_app, ht]; rfl⟩
    refine ev_step ?_; simp only [hexa_Print.j2]
    exact ev_neg c4 (ev_pos c1 (ev_pos (show t.size + 5 < 35184372088832 by omega) (Ev.now _)))
  rw [if_neg c1]
  have P := pr_ok h c1 (by omega)
  have hp := bl_pos P.ne
  have hlo := P.lo
  have hhi := P.hi
  obtain ⟨r, hr, hr2⟩ := Print_num (s := (wv f w).1) (l := (wv f w).2.1) (e := (wv f w).2.2) (c := cls f w) (word_Value_ev h hw (by omega)) P.my P.ne P.b (by omega) (by omega) c1 (by omega) (wneg f w) t ht
  exact ⟨r, hgo c5 ht hr, hr2⟩
theorem Print_bad {f : Int} (h : isF f) {w : Nat} (hw : ¬ w < 2 * sg f) : Ev (fun k => hexa_Print.f k f (w : Int)) (⟨#[]⟩, 6) := by
  unfold hexa_Print.f
  exact Ev.bind (word_Class_bad h hw) (ev_pos (by simp) (Ev.now _))
theorem Print_badf {f : Int} (h : ¬ isF f) (w : Int) : Ev (fun k => hexa_Print.f k f w) (⟨#[]⟩, 4) := by
  unfold hexa_Print.f
  exact Ev.bind (word_Class_badf h w) (ev_pos (by simp) (Ev.now _))
/-! ### the document's text -/
theorem rbit {z : Nat} (i : Int) (h1 : -100 ≤ i) (h2 : i ≤ 100) (hz : z < 18446744073709551616) : cutplaneref01_Bit.f (D z) i = some (((if 0 ≤ i then z / 2 ^ i.toNat % 2 else 0 : Nat) : Int)) := by
  have hl : (D z).length ≤ 2 := D_lt (k := 2) (by omega)
  by_cases c : 0 ≤ i
  · rw [if_pos c]
    have h := ref_Bit_eq (Dg_D z) (by omega) i.toNat (by omega)
    rw [V_D, Int.toNat_of_nonneg c] at h
    exact h
  · rw [if_neg c]
    unfold cutplaneref01_Bit.f
    rw [if_pos (by omega)]
    rfl
end Go.Proofs.YtbcjdlljmhfhdaaGreatDoor.Eng.K

/- The document's text of a word to the base 16. -/
set_option linter.unusedVariables false
set_option linter.unusedSimpArgs false
namespace Go.Proofs.YtbcjdlljmhfhdaaGreatDoor.Eng.K
open Go.RowKit Go.Proofs Go.Proofs.YtbcjdlljmhfhdaaGreatDoor.Eng
def bitZ (z : Nat) (i : Int) : Nat := if 0 ≤ i then z / 2 ^ i.toNat % 2 else 0
theorem bitZ_le (z : Nat) (i : Int) : bitZ z i ≤ 1 := by unfold bitZ; split <;> omega
theorem rbitZ {z : Nat} (i : Int) (h1 : -100 ≤ i) (h2 : i ≤ 100) (hz : z < 18446744073709551616) : cutplaneref01_Bit.f (D z) i = some ((bitZ z i : Nat) : Int) := rbit i h1 h2 hz
theorem hex_dig {d : Nat} (h : d < 16) : tl (tx_cd7d873d.extract d (d + 1)) = [hdig d] := by
  have : ∀ d : Fin 16, tl (tx_cd7d873d.extract d.1 (d.1 + 1)) = [hdig d.1] := by decide +kernel
  exact this ⟨d, h⟩
theorem rprint_l1 {z : Nat} {s : Bool} {e p : Int} {t r : ByteArray} (hz : z < 18446744073709551616) (h1 : 0 ≤ p) (h2 : p ≤ 60) (ht : t.size ≤ 1000)
    (hk : ∀ u : ByteArray, tl u = tl t ++ [hdig (8 * bitZ z p + 4 * bitZ z (p - 1) + 2 * bitZ z (p - 2) + bitZ z (p - 3))] → Ev (fun k => cutplaneref09_Print.l0 k u s (D z) e (p - 4)) r) :
    Ev (fun k => cutplaneref09_Print.l1 k t s (D z) e p 0 0) r := by
  have b0 := bitZ_le z p
  have b1 := bitZ_le z (p - 1)
  have b2 := bitZ_le z (p - 2)
  have b3 := bitZ_le z (p - 3)
  have step : ∀ (v j : Nat), v ≤ 100 → j ≤ 3 → Ev (fun k => cutplaneref09_Print.l1 k t s (D z) e p ((2 * v + bitZ z (p - j) : Nat) : Int) ((j + 1 : Nat) : Int)) r → Ev (fun k => cutplaneref09_Print.l1 k t s (D z) e p (v : Int) (j : Int)) r := by
    intro v j hv hj h
    have hb := bitZ_le z (p - j)
    refine ev_step ?_; simp only [cutplaneref09_Print.l1]
    refine ev_pos (by omega) ?_
    rw [w64 (n := p - (j : Int)) (by omega) (by omega)]
    refine ev_bind (rbitZ _ (by omega) (by omega) hz) ?_
    have e1 : wrap64 (wrap64 (2 * (v : Int)) + wrap64 ((bitZ z (p - j) : Nat) : Int)) = ((2 * v + bitZ z (p - j) : Nat) : Int) := by
      rw [w64 (n := 2 * (v : Int)) (by omega) (by omega), w64 (n := ((bitZ z (p - j) : Nat) : Int)) (by omega) (by omega), w64 (by omega) (by omega)]
      omega
    have e2 : wrap64 ((j : Int) + 1) = ((j + 1 : Nat) : Int) := by rw [w64 (by omega) (by omega)]; omega
    rw [e1, e2]
    exact h
  obtain ⟨d, hd⟩ : ∃ d, d = 8 * bitZ z p + 4 * bitZ z (p - 1) + 2 * bitZ z (p - 2) + bitZ z (p - 3) := ⟨_, rfl⟩
  rw [← hd] at hk
  have hd16 : d < 16 := by omega
  have hex := hex_dig hd16
  have hfin : Ev (fun k => cutplaneref09_Print.l1 k t s (D z) e p (d : Int) 4) r := by
    have hsz : tx_cd7d873d.size = 16 := by decide +kernel
    have e1 : wrap64 ((d : Int) + 1) = ((d + 1 : Nat) : Int) := by rw [w64 (by omega) (by omega)]; omega
    refine ev_step ?_; simp only [cutplaneref09_Print.l1]
    rw [e1, Int.toNat_natCast, Int.toNat_natCast]
    have hes : (tx_cd7d873d.extract d (d + 1)).size = 1 := by rw [tl_size_eq, hex]; rfl
    refine ev_neg (by omega) (ev_pos (by omega) (ev_pos (by omega) (ev_pos (by omega) (ev_pos (by omega) ?_))))
    rw [w64 (n := p - 4) (by omega) (by omega)]
    exact hk _ (by rw [tl_app, hex])
  have h4 := step (4 * bitZ z p + 2 * bitZ z (p - 1) + bitZ z (p - 2)) 3 (by omega) (by omega) (by
    rw [show 2 * (4 * bitZ z p + 2 * bitZ z (p - 1) + bitZ z (p - 2)) + bitZ z (p - (3 : Nat)) = d by rw [hd]; show _ + bitZ z (p - 3) = _; omega]
    exact hfin)
  have h3 := step (2 * bitZ z p + bitZ z (p - 1)) 2 (by omega) (by omega) (by
    rw [show 2 * (2 * bitZ z p + bitZ z (p - 1)) + bitZ z (p - (2 : Nat)) = 4 * bitZ z p + 2 * bitZ z (p - 1) + bitZ z (p - 2) by show _ + bitZ z (p - 2) = _; omega]
    exact h4)
  have h2' := step (bitZ z p) 1 (by omega) (by omega) (by
    rw [show 2 * bitZ z p + bitZ z (p - (1 : Nat)) = 2 * bitZ z p + bitZ z (p - 1) from rfl]
    exact h3)
  have h1' := step 0 0 (by omega) (by omega) (by
    rw [show 2 * 0 + bitZ z (p - (0 : Nat)) = bitZ z p by rw [Nat.mul_zero, Nat.zero_add]; congr 1; omega]
    exact h2')
  exact h1'
theorem rprint_end {z : Nat} {s : Bool} {e at0 : Int} {t : ByteArray} (hd : Dy s (D z) e) (hz : z < 18446744073709551616) (h0 : z ≠ 0) (h1 : -1099 ≤ e + (bl z : Nat) - 1) (h2 : e + (bl z : Nat) - 1 < 1100) (ht : t.size ≤ 1000) (ha : at0 < 0) :
    ∃ r, Ev (fun k => cutplaneref09_Print.l0 k t s (D z) e at0) r ∧ tl r = tl t ++ 112 :: etx (e + (bl z : Nat) - 1) := by
  have hl : (D z).length ≤ 2 := D_lt (k := 2) (by omega)
  have hbz : bl z ≤ 64 := bl_le_of_lt hz
  have htop : top (sv s (V (D z))) e = e + (bl z : Nat) := by
    unfold top
    rw [V_D, if_neg (fun h => h0 (sv_eq_zero.1 h)), sv_abs]
  have hT := ref_Top2_ev hd (by omega) (by omega) (by omega)
  rw [htop] at hT
  obtain ⟨x, hx⟩ : ∃ x, x = e + (bl z : Nat) - 1 := ⟨_, rfl⟩
  rw [← hx] at h1 h2 ⊢
  have hw : wrap64 (e + ((bl z : Nat) : Int) - 1) = x := by rw [w64 (by omega) (by omega), hx]
  have hgo : ∀ {r}, Ev (fun k => (if x < 0 then (if t.size + (⟨#[112, 45]⟩ : ByteArray).size < 35184372088832 then ((cutplaneref01_Of.f k (IntKind.u64.wrap (wrap64 (-x)))).bind fun t475 => ((cutplaneref01_Text.f k t475).bind fun t484 => (if (t ++ (⟨#[112, 45]⟩ : ByteArray)).size + t484.size < 35184372088832 then (some ((t ++ (⟨#[112, 45]⟩ : ByteArray)) ++ t484)) else (none)))) else (none)) else (if t.size + (⟨#[112]⟩ : ByteArray).size < 35184372088832 then ((cutplaneref01_Of.f k (IntKind.u64.wrap x)).bind fun t485 => ((cutplaneref01_Text.f k t485).bind fun t486 => (if (t ++ (⟨#[112]⟩ : ByteArray)).size + t486.size < 35184372088832 then (some ((t ++ (⟨#[112]⟩ : ByteArray)) ++ t486)) else (none)))) else (none)))) r → Ev (fun k => cutplaneref09_Print.l0 k t s (D z) e at0) r := by
    intro r h
    refine ev_step ?_; simp only [cutplaneref09_Print.l0]
    refine ev_neg (by omega) (Ev.bind hT ?_)
    simp only [hw]
    exact h
  obtain ⟨u, hu, hu2⟩ := rText_small (n := x.natAbs) (by omega)
  have hus : u.size ≤ 6 := by
    rw [tl_size_eq, hu2]
    have : ∀ k n, (dtxF k n).length ≤ k := by
      intro k
      induction k with
      | zero => intro n; simp [dtxF]
      | succ k ih => intro n; unfold dtxF; have := ih (n / 10); split <;> simp; omega
    exact this 6 _
  by_cases c : x < 0
  · have e1 : IntKind.u64.wrap (wrap64 (-x)) = (x.natAbs : Int) := by rw [w64 (by omega) (by omega), u64 (by omega) (by omega)]; omega
    rw [e1] at hgo
    have hO := ref_Of_ev (n := (x.natAbs : Int)) (by omega) (by omega)
    rw [Int.toNat_natCast] at hO
    refine ⟨t ++ ⟨#[112, 45]⟩ ++ u, hgo (ev_pos c (ev_pos (show t.size + 2 < 35184372088832 by omega) (Ev.bind hO (Ev.bind hu (ev_pos ?_ (Ev.now _)))))), ?_⟩
    · have hz : (t ++ (⟨#[112, 45]⟩ : ByteArray)).size = t.size + 2 := by rw [ByteArray.size_append]; rfl
      omega
    · rw [tl_app, tl_app, hu2, List.append_assoc]
      unfold etx
      rw [if_pos c]; rfl
  · have e1 : IntKind.u64.wrap x = (x.natAbs : Int) := by rw [u64 (by omega) (by omega)]; omega
    rw [e1] at hgo
    have hO := ref_Of_ev (n := (x.natAbs : Int)) (by omega) (by omega)
    rw [Int.toNat_natCast] at hO
    refine ⟨t ++ ⟨#[112]⟩ ++ u, hgo (ev_neg c (ev_pos (show t.size + 1 < 35184372088832 by omega) (Ev.bind hO (Ev.bind hu (ev_pos ?_ (Ev.now _)))))), ?_⟩
    · have hz : (t ++ (⟨#[112]⟩ : ByteArray)).size = t.size + 1 := by rw [ByteArray.size_append]; rfl
      omega
    · rw [tl_app, tl_app, hu2, List.append_assoc]
      unfold etx
      rw [if_neg c]; rfl
theorem bitZ_up {z p t : Nat} {i : Int} (hi : i = (t : Int) - (p : Int)) : bitZ z i = z * 2 ^ p / 2 ^ t % 2 := by
  rw [bit_up]
  unfold bitZ
  by_cases c : p ≤ t
  · rw [if_pos (by omega), if_pos c, show i.toNat = t - p by omega]
  · rw [if_neg (by omega), if_neg c]
theorem rprint_l0 {z n c : Nat} {s : Bool} {e : Int} (hd : Dy s (D z) e) (hz : z < 18446744073709551616) (h0 : z ≠ 0) (hn : n ≤ 60) (hc : 4 * c - n ≤ 3 ∧ n ≤ 4 * c) (h1 : -1099 ≤ e + (bl z : Nat) - 1) (h2 : e + (bl z : Nat) - 1 < 1100) :
    ∀ (j i : Nat) (t : ByteArray) (B : List UInt8), i + j = c → tl t = B ++ hexl i (z * 2 ^ (4 * c - n) / 16 ^ j) → B.length ≤ 100 →
    ∃ r, Ev (fun k => cutplaneref09_Print.l0 k t s (D z) e ((n : Int) - 1 - 4 * (i : Int))) r ∧ tl r = B ++ hexl c (z * 2 ^ (4 * c - n)) ++ 112 :: etx (e + (bl z : Nat) - 1)
  | 0, i, t, B, hij, ht, hB => by
    have hts : t.size ≤ 1000 := by rw [tl_size_eq, ht, List.length_append, hexl_len]; omega
    obtain ⟨r, hr, hr2⟩ := rprint_end (at0 := (n : Int) - 1 - 4 * (i : Int)) hd hz h0 h1 h2 hts (by omega)
    refine ⟨r, hr, ?_⟩
    rw [hr2, ht, Nat.pow_zero, Nat.div_one, show i = c by omega]
  | j + 1, i, t, B, hij, ht, hB => by
    have hts : t.size ≤ 1000 := by rw [tl_size_eq, ht, List.length_append, hexl_len]; omega
    have ih := fun u hu => rprint_l0 (s := s) (e := e) hd hz h0 hn hc h1 h2 j (i + 1) u B (by omega) hu hB
    obtain ⟨u, hu⟩ : ∃ u : ByteArray, tl u = B ++ hexl (i + 1) (z * 2 ^ (4 * c - n) / 16 ^ j) := ⟨⟨(B ++ hexl (i + 1) (z * 2 ^ (4 * c - n) / 16 ^ j)).toArray⟩, rfl⟩
    obtain ⟨r, hr, hr2⟩ := ih u hu
    refine ⟨r, ?_, hr2⟩
    refine ev_step ?_; simp only [cutplaneref09_Print.l0]
    refine ev_pos (by omega) (rprint_l1 hz (by omega) (by omega) hts fun v hv => ?_)
    have hvu : v = u := by
      refine tl_inj.1 ?_
      rw [hv, hu, ht, hexl_front, List.append_assoc, nib]
      rw [← bitZ_up (z := z) (p := 4 * c - n) (t := 4 * j + 3) (i := (n : Int) - 1 - 4 * (i : Int)) (by omega),
        ← bitZ_up (z := z) (p := 4 * c - n) (t := 4 * j + 2) (i := (n : Int) - 1 - 4 * (i : Int) - 1) (by omega),
        ← bitZ_up (z := z) (p := 4 * c - n) (t := 4 * j + 1) (i := (n : Int) - 1 - 4 * (i : Int) - 2) (by omega),
        ← bitZ_up (z := z) (p := 4 * c - n) (t := 4 * j) (i := (n : Int) - 1 - 4 * (i : Int) - 3) (by omega)]
    rw [hvu, show (n : Int) - 1 - 4 * (i : Int) - 4 = (n : Int) - 1 - 4 * ((i + 1 : Nat) : Int) by omega]
    exact hr
theorem rPrint_ev {f : Int} (h : isF f) (w : Nat) : ∃ r, Ev (fun k => cutplaneref09_Print.f k f (w : Int)) r ∧ tl r = prS f w := by
  have hcb := cls_b h w
  have hgo : ∀ {t r : ByteArray}, tl t = sgT (wneg f w) → Ev (fun k => cutplaneref09_Print.j0 k f (w : Int) t) r → Ev (fun k => cutplaneref09_Print.f k f (w : Int)) r := by
    intro t r ht hr
    unfold cutplaneref09_Print.f
    refine ev_bind (rSplit_eq h w) ?_
    unfold sgT at ht
    cases hn : wneg f w with
    | true =>
      rw [hn, if_pos rfl] at ht
      have : t = ⟨#[45]⟩ := tl_inj.1 ht
      rw [this] at hr
      exact ev_pos rfl hr
    | false =>
      rw [hn, if_neg (by simp)] at ht
      have : t = ⟨#[]⟩ := tl_nil.1 ht
      rw [this] at hr
      exact ev_neg (by simp) hr
  obtain ⟨t, ht⟩ : ∃ t : ByteArray, tl t = sgT (wneg f w) := ⟨⟨(sgT (wneg f w)).toArray⟩, rfl⟩
  have hts : t.size ≤ 1 := by rw [tl_size_eq, ht]; exact sgT_len _
  unfold prS
  by_cases c5 : cls f w = 5
  · rw [if_pos c5]
    refine ⟨⟨#[110, 97, 110]⟩, hgo ht ?_, rfl⟩
    refine ev_step ?_; simp only [cutplaneref09_Print.j0]
    exact ev_bind (rClass_eq h w) (ev_pos c5 (Ev.now _))
  rw [if_neg c5]
  by_cases c4 : cls f w = 4
  · rw [if_pos c4]
    refine ⟨t ++ ⟨#[105, 110, 102]⟩, hgo ht ?_, by rw [tl_app, ht]; rfl⟩
    refine ev_step ?_; simp only [cutplaneref09_Print.j0]
    exact ev_bind (rClass_eq h w) (ev_neg c5 (ev_pos c4 (ev_pos (show t.size + 3 < 35184372088832 by omega) (Ev.now _))))
  rw [if_neg c4]
  by_cases c1 : cls f w = 1
  · rw [if_pos c1]
    refine ⟨t ++ ⟨#[48, 120, 48, 112, 48]⟩, hgo ht ?_, by rw [tl_app, ht]; rfl⟩
    refine ev_step ?_; simp only [cutplaneref09_Print.j0]
    exact ev_bind (rClass_eq h w) (ev_neg c5 (ev_neg c4 (ev_pos c1 (ev_pos (show t.size + 5 < 35184372088832 by omega) (Ev.now _)))))
  rw [if_neg c1]
  have P := pr_ok h c1 (by omega)
  have hv := rValue_ev h w
  have hwv : mk (sv (wneg f w) (wmag f w)) (wex f w) = wv f w := rfl
  rw [hwv] at hv
  obtain ⟨my, ne, b, lo, hi, hs⟩ := P
  have hz : (t ++ (⟨#[48, 120, 49]⟩ : ByteArray)).size = t.size + 3 := by rw [ByteArray.size_append]; rfl
  have hz2 : ((t ++ (⟨#[48, 120, 49]⟩ : ByteArray)) ++ (⟨#[46]⟩ : ByteArray)).size = t.size + 4 := by rw [ByteArray.size_append, hz]; rfl
  revert hv my ne b lo hi hs
  generalize wv f w = x
  obtain ⟨s, l, e⟩ := x
  intro hv my ne b lo hi hs
  simp only at my ne b lo hi hs ⊢
  have hnm : D (V l) = l := my.dy.nm
  have hp := bl_pos ne
  have hlt : V l < 18446744073709551616 := Nat.lt_of_lt_of_le (lt_bl _) (Nat.le_trans (Nat.pow_le_pow_right (by omega) (by omega : bl (V l) ≤ 64)) (by decide))
  have hdy : Dy s (D (V l)) e := by rw [hnm]; exact my.dy
  have hlen := my.len
  have hwn : wrap64 (((bl (V l) : Nat) : Int) - 1) = ((bl (V l) - 1 : Nat) : Int) := by rw [w64 (by omega) (by omega)]; omega
  obtain ⟨n, hN⟩ : ∃ n, n = bl (V l) - 1 := ⟨_, rfl⟩
  have hstart : ∀ {u r : ByteArray}, Ev (fun k => cutplaneref09_Print.l0 k u s (D (V l)) e ((n : Int) - 1 - 4 * ((0 : Nat) : Int))) r → Ev (fun k => cutplaneref09_Print.j4 k u s l e (n : Int)) r := by
    intro u r hr
    rw [hnm] at hr
    refine ev_step ?_; simp only [cutplaneref09_Print.j4]
    rw [w64 (n := (n : Int) - 1) (by omega) (by omega)]
    rw [show (n : Int) - 1 - 4 * ((0 : Nat) : Int) = (n : Int) - 1 by omega] at hr
    exact hr
  have hgo2 : ∀ {r}, Ev (fun k => if (n : Int) > 0 then (if (t ++ (⟨#[48, 120, 49]⟩ : ByteArray)).size + (⟨#[46]⟩ : ByteArray).size < 35184372088832 then (cutplaneref09_Print.j4 k ((t ++ (⟨#[48, 120, 49]⟩ : ByteArray)) ++ (⟨#[46]⟩ : ByteArray)) s l e (n : Int)) else (none)) else (cutplaneref09_Print.j4 k (t ++ (⟨#[48, 120, 49]⟩ : ByteArray)) s l e (n : Int))) r → Ev (fun k => cutplaneref09_Print.j0 k f (w : Int) t) r := by
    intro r hr
    refine ev_step ?_; simp only [cutplaneref09_Print.j0]
    refine ev_bind (rClass_eq h w) (ev_neg c5 (ev_neg c4 (ev_neg c1 (Ev.bind hv (Ev.bind (ref_Len_ev (l := l) my.dy.nm (Nat.lt_of_le_of_lt hlen (by decide))) (ev_pos (show t.size + 3 < 35184372088832 by omega) ?_))))))
    simp only [hwn, ← hN]
    exact hr
  unfold numT frac
  rw [← hN]
  by_cases c0 : n = 0
  · obtain ⟨r, hr, hr2⟩ := rprint_l0 (n := n) (c := 0) hdy hlt ne (by omega) (by omega) (by omega) (by omega) 0 0 (t ++ (⟨#[48, 120, 49]⟩ : ByteArray)) (tl (t ++ (⟨#[48, 120, 49]⟩ : ByteArray))) rfl (by simp [hexl]) (by rw [tl_len]; omega)
    refine ⟨r, hgo ht (hgo2 (ev_neg (by omega) (hstart hr))), ?_⟩
    rw [hr2, if_pos c0, tl_app, ht]
    simp [hexl, tl]
  · obtain ⟨r, hr, hr2⟩ := rprint_l0 (n := n) (c := (n + 3) / 4) hdy hlt ne (by omega) (by omega) (by omega) (by omega) ((n + 3) / 4) 0 ((t ++ (⟨#[48, 120, 49]⟩ : ByteArray)) ++ (⟨#[46]⟩ : ByteArray)) (tl ((t ++ (⟨#[48, 120, 49]⟩ : ByteArray)) ++ (⟨#[46]⟩ : ByteArray))) (by omega) (by simp [hexl]) (by rw [tl_len]; omega)
    refine ⟨r, hgo ht (hgo2 (ev_pos (by omega) (ev_pos (show (t ++ (⟨#[48, 120, 49]⟩ : ByteArray)).size + 1 < 35184372088832 by omega) (hstart hr)))), ?_⟩
    rw [hr2, if_neg c0, tl_app, tl_app, ht]
    simp [tl]
end Go.Proofs.YtbcjdlljmhfhdaaGreatDoor.Eng.K

/- Layer 9: the text of a word, what any text says, and that what is printed comes back. -/
set_option linter.unusedVariables false
set_option linter.unusedSimpArgs false
namespace Go.Proofs.YtbcjdlljmhfhdaaGreatDoor.Eng.K
open Go.RowKit Go.Proofs Go.Proofs.YtbcjdlljmhfhdaaGreatDoor.Eng
set_option maxRecDepth 100000
theorem hknown1 (k : Nat) : hexa_Print.f (k + 120) 1 3217031168 = some (⟨#[45, 48, 120, 49, 46, 56, 112, 48]⟩, 0) := by kernel_rfl
theorem hknown2 (k : Nat) : hexa_Parse.f (k + 200) 1 4 tx_03c0852d = some (1065353217, 16, 0) := by kernel_rfl
theorem ev_from {α : Type} {g : Nat → Option α} {r : α} {n : Nat} (h : ∀ k, g (k + n) = some r) : Ev g r := ⟨n, fun k hk => by have := h (k - n); rwa [Nat.sub_add_cancel hk] at this⟩
theorem hknown_ev : Ev (fun k => cutplanelaw09_known.f k) true := by
  unfold cutplanelaw09_known.f
  refine Ev.bind (ev_from hknown1) (Ev.bind (ev_from hknown2) ?_)
  exact ev_pos rfl (ev_pos rfl (ev_pos rfl (ev_pos rfl (ev_eq (Ev.now _) (by simp)))))
theorem hknown_then : Ev (fun k => (cutplanelaw09_known.f k).bind fun t => some t) true := Ev.bind hknown_ev (Ev.now _)
theorem HexaPrints (f w : Int) (hw : IntKind.u64.min ≤ w ∧ w ≤ IntKind.u64.max) : Ev (fun k => cutplanelaw09_HexaPrints.f k f w) true := by
  obtain ⟨w, rfl, hlt⟩ := u64_nat hw
  unfold cutplanelaw09_HexaPrints.f
  by_cases h : isF f
  rotate_left
  · refine Ev.bind (Print_badf h _) (ev_bind (rGood_bad h _) ?_)
    exact ev_pos (by simp) (ev_pos rfl (ev_pos rfl hknown_then))
  by_cases hg : w < 2 * sg f
  · obtain ⟨r, hr, hr2⟩ := Print_ev h hg
    obtain ⟨u, hu, hu2⟩ := rPrint_ev h w
    have hru : r = u := tl_inj.1 (by rw [hr2, hu2])
    refine Ev.bind hr (ev_bind (rGood_eq h hlt) ?_)
    unfold goodE
    rw [if_pos hg]
    exact ev_neg (by simp) (Ev.bind hu (ev_pos hru (ev_pos rfl hknown_then)))
  · refine Ev.bind (Print_bad h hg) (ev_bind (rGood_eq h hlt) ?_)
    unfold goodE
    rw [if_neg hg]
    exact ev_pos (by simp) (ev_pos rfl (ev_pos rfl hknown_then))
/-! ### what is printed comes back -/
end Go.Proofs.YtbcjdlljmhfhdaaGreatDoor.Eng.K

