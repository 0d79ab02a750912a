import Derived.Test.YtbcjdlljmhfhdaaGreatDoorQHexaReadsF1
import Derived.Lib.Strings
import Derived.Laws.RangeString
import Derived.Laws.BitsAllLaws
set_option linter.unusedVariables false
set_option linter.unusedSimpArgs false
/- Loops that answer from some number of rounds on. -/
namespace Go.Proofs.YtbcjdlljmhfhdaaGreatDoor.Eng
def Ev {α : Type} (g : Nat → Option α) (r : α) : Prop := ∃ n, ∀ k, n ≤ k → g k = some r
theorem Ev.now {α : Type} (r : α) : Ev (fun _ => some r) r := ⟨0, fun _ _ => rfl⟩
theorem Ev.bind {α β : Type} {g : Nat → Option α} {f : Nat → α → Option β} {a : α} {r : β} (h : Ev g a) (k : Ev (fun n => f n a) r) : Ev (fun n => (g n).bind (f n)) r := by
  obtain ⟨n, hn⟩ := h
  obtain ⟨m, hm⟩ := k
  exact ⟨n + m, fun i hi => by show (g i).bind (f i) = some r; rw [hn i (by omega), Option.bind_some]; exact hm i (by omega)⟩
theorem Ev.step {α : Type} {g f : Nat → Option α} {r : α} (h : ∀ k, g (k + 1) = f k) (k : Ev f r) : Ev g r := by
  obtain ⟨n, hn⟩ := k
  refine ⟨n + 1, fun i hi => ?_⟩
  obtain ⟨i, rfl⟩ : ∃ j, i = j + 1 := ⟨i - 1, by omega⟩
  rw [h]; exact hn i (by omega)
end Go.Proofs.YtbcjdlljmhfhdaaGreatDoor.Eng

/- Numbers as lists of digits to the base 2^32: their values, the normal list of a number; loops that answer from some number of rounds on. -/
set_option linter.unusedVariables false
set_option linter.unusedSimpArgs false
namespace Go.Proofs.YtbcjdlljmhfhdaaGreatDoor.Eng.K
open Go.RowKit

/-! ### what the printed functions are made of -/
theorem w64 {n : Int} (h0 : -9223372036854775808 ≤ n) (h1 : n < 9223372036854775808) : wrap64 n = n := by unfold wrap64; omega
theorem w64n {n : Int} (h0 : 0 ≤ n) (h1 : n < 9223372036854775808) : wrap64 n = n := by unfold wrap64; omega
theorem u64 {n : Int} (h0 : 0 ≤ n) (h1 : n < 18446744073709551616) : IntKind.u64.wrap n = n := by
  simp [IntKind.wrap, IntKind.bits, IntKind.signed]; omega
theorem u64m (n : Int) : IntKind.u64.wrap n = n % 18446744073709551616 := by
  simp [IntKind.wrap, IntKind.bits, IntKind.signed]
theorem rdn (xs : List Int) (n : Nat) : rd xs (n : Int) = xs.getD n 0 := by simp [rd]
theorem rd_app {xs ys : List Int} {y : Int} {i : Int} (h : i = (xs.length : Int)) : rd (xs ++ y :: ys) i = y := by
  subst h; simp [rd]
theorem set_app {xs ys : List Int} {y z : Int} {i : Int} (h : i = (xs.length : Int)) : (xs ++ y :: ys).set i.toNat z = (xs ++ [z]) ++ ys := by
  subst h; simp
theorem ev_eq {α : Type} {g : Nat → Option α} {r s : α} (h : Ev g r) (e : r = s) : Ev g s := e ▸ h
theorem ev_const {α : Type} {x : Option α} {r : α} (h : x = some r) : Ev (fun _ => x) r := by subst h; exact Ev.now r
theorem ev_pos {α : Type} {c : Prop} {_ : Decidable c} {g f : Nat → Option α} {r : α} (h : c) (k : Ev g r) : Ev (fun n => if c then g n else f n) r := by
  simpa [h] using k
theorem ev_neg {α : Type} {c : Prop} {_ : Decidable c} {g f : Nat → Option α} {r : α} (h : ¬ c) (k : Ev f r) : Ev (fun n => if c then g n else f n) r := by
  simpa [h] using k
theorem ev_bind {α β : Type} {x : Option α} {f : Nat → α → Option β} {a : α} {r : β} (h : x = some a) (k : Ev (fun n => f n a) r) : Ev (fun n => x.bind (f n)) r := by
  subst h; exact k
theorem ev_step {α : Type} {g : Nat → Option α} {r : α} (k : Ev (fun n => g (n + 1)) r) : Ev g r := Ev.step (fun _ => rfl) k
/-- answers that are the same from some round on -/
theorem Ev.unique {α : Type} {g : Nat → Option α} {r s : α} (h : Ev g r) (k : Ev g s) : r = s := by
  obtain ⟨a, ha⟩ := h; obtain ⟨b, hb⟩ := k
  have h1 := ha (max a b) (Nat.le_max_left _ _); have h2 := hb (max a b) (Nat.le_max_right _ _)
  rw [h1] at h2; exact Option.some.inj h2

/-! ### values -/
def Dg (l : List Int) : Prop := ∀ x ∈ l, 0 ≤ x ∧ x < 4294967296
def V : List Int → Nat
  | [] => 0
  | d :: l => d.toNat + 4294967296 * V l
def D (n : Nat) : List Int := if h : n = 0 then [] else ((n % 4294967296 : Nat) : Int) :: D (n / 4294967296)
termination_by n
decreasing_by omega

theorem Dg.nil : Dg [] := fun _ h => by simp at h
theorem Dg.cons {d : Int} {l : List Int} (h0 : 0 ≤ d) (h1 : d < 4294967296) (h : Dg l) : Dg (d :: l) := fun x hx => by
  rcases List.mem_cons.1 hx with rfl | hx
  · exact ⟨h0, h1⟩
  · exact h x hx
theorem Dg.head {d : Int} {l : List Int} (h : Dg (d :: l)) : 0 ≤ d ∧ d < 4294967296 := h d (by simp)
theorem Dg.tail {d : Int} {l : List Int} (h : Dg (d :: l)) : Dg l := fun x hx => h x (by simp [hx])
theorem Dg.app {a b : List Int} (h : Dg a) (k : Dg b) : Dg (a ++ b) := fun x hx => by
  rcases List.mem_append.1 hx with hx | hx
  · exact h x hx
  · exact k x hx
theorem Dg.left {a b : List Int} (h : Dg (a ++ b)) : Dg a := fun x hx => h x (by simp [hx])
theorem Dg.right {a b : List Int} (h : Dg (a ++ b)) : Dg b := fun x hx => h x (by simp [hx])
theorem Dg.take {a : List Int} (h : Dg a) (n : Nat) : Dg (a.take n) := fun x hx => h x (List.mem_of_mem_take hx)
theorem Dg.drop {a : List Int} (h : Dg a) (n : Nat) : Dg (a.drop n) := fun x hx => h x (List.mem_of_mem_drop hx)
theorem Dg.zeros (n : Nat) : Dg (List.replicate n 0) := fun x hx => by
  obtain ⟨_, rfl⟩ := List.mem_replicate.1 hx; omega
theorem Dg.getD {a : List Int} (h : Dg a) (n : Nat) : 0 ≤ a.getD n 0 ∧ a.getD n 0 < 4294967296 := by
  rw [List.getD_eq_getElem?_getD]
  cases e : a[n]? with
  | none => simp
  | some x => simpa using h x (List.mem_of_getElem? e)
theorem Dg.rd {a : List Int} (h : Dg a) (i : Int) : 0 ≤ rd a i ∧ rd a i < 4294967296 := h.getD i.toNat
theorem Dg.set {a : List Int} (h : Dg a) (n : Nat) {x : Int} (h0 : 0 ≤ x) (h1 : x < 4294967296) : Dg (a.set n x) := fun y hy => by
  rcases List.mem_or_eq_of_mem_set hy with hy | rfl
  · exact h y hy
  · exact ⟨h0, h1⟩
@[simp] theorem V_nil : V [] = 0 := rfl
@[simp] theorem V_cons (d : Int) (l : List Int) : V (d :: l) = d.toNat + 4294967296 * V l := rfl
theorem V_append (a b : List Int) : V (a ++ b) = V a + 4294967296 ^ a.length * V b := by
  induction a with
  | nil => simp
  | cons d a ih => simp [ih, Nat.pow_succ]; grind
theorem V_zeros (n : Nat) : V (List.replicate n 0) = 0 := by
  induction n with
  | zero => rfl
  | succ n ih => simp [List.replicate_succ, ih]
theorem V_lt {l : List Int} (h : Dg l) : V l < 4294967296 ^ l.length := by
  induction l with
  | nil => simp
  | cons d l ih =>
    have := ih h.tail; have := h.head
    simp only [V_cons, List.length_cons, Nat.pow_succ]
    omega
theorem D_zero : D 0 = [] := by unfold D; simp
theorem D_pos {n : Nat} (h : n ≠ 0) : D n = ((n % 4294967296 : Nat) : Int) :: D (n / 4294967296) := by
  conv => lhs; unfold D
  simp [h]
theorem V_D (n : Nat) : V (D n) = n := by
  induction n using Nat.strongRecOn with
  | _ n ih =>
    by_cases h : n = 0
    · subst h; simp [D_zero]
    · rw [D_pos h, V_cons, ih _ (by omega)]; omega
theorem Dg_D (n : Nat) : Dg (D n) := by
  induction n using Nat.strongRecOn with
  | _ n ih =>
    by_cases h : n = 0
    · subst h; rw [D_zero]; exact Dg.nil
    · rw [D_pos h]; exact Dg.cons (by omega) (by omega) (ih _ (by omega))
theorem D_cons {d : Int} {n : Nat} (h0 : 0 ≤ d) (h1 : d < 4294967296) (h : d ≠ 0 ∨ n ≠ 0) : D (d.toNat + 4294967296 * n) = d :: D n := by
  rw [D_pos (by omega)]
  congr 1
  · omega
  · congr 1; omega
theorem D_inj {a b : Nat} (h : D a = D b) : a = b := by rw [← V_D a, h, V_D]
/-- a list that is a number's: no nought at the high end -/
def Nm (l : List Int) : Prop := D (V l) = l
instance (l : List Int) : Decidable (Nm l) := inferInstanceAs (Decidable (D (V l) = l))
theorem Nm.dg {l : List Int} (h : Nm l) : Dg l := h ▸ Dg_D _
theorem Nm_D (n : Nat) : Nm (D n) := by unfold Nm; rw [V_D]
theorem Nm_nil : Nm [] := by unfold Nm; exact D_zero
theorem Nm.inj {a b : List Int} (h : Nm a) (k : Nm b) (e : V a = V b) : a = b := by rw [← h, e, k]
theorem V_eq_zero {l : List Int} (h : Nm l) : V l = 0 ↔ l = [] := by
  constructor
  · intro e; rw [← h, e, D_zero]
  · rintro rfl; rfl
theorem Nm_snoc {l : List Int} {d : Int} (h : Dg l) (h0 : 0 < d) (h1 : d < 4294967296) : Nm (l ++ [d]) := by
  unfold Nm
  induction l with
  | nil =>
    have := D_cons (d := d) (n := 0) (by omega) h1 (by omega)
    simpa [D_zero] using this
  | cons x l ih =>
    have hx := h.head
    rw [List.cons_append, V_cons, D_cons hx.1 hx.2, ih h.tail]
    right; rw [V_append]
    have : 0 < 4294967296 ^ l.length := Nat.pow_pos (by omega)
    have : 0 < 4294967296 ^ l.length * V [d] := Nat.mul_pos this (by simp; omega)
    omega
theorem V_snoc_zero (l : List Int) : V (l ++ [0]) = V l := by rw [V_append]; simp
theorem D_len_le {l : List Int} (h : Dg l) : (D (V l)).length ≤ l.length := by
  induction l with
  | nil => simp [D_zero]
  | cons x l ih =>
    have hx := h.head
    by_cases e : x ≠ 0 ∨ V l ≠ 0
    · rw [V_cons, D_cons hx.1 hx.2 e]; simpa using ih h.tail
    · have h1 : x = 0 := by omega
      have h2 : V l = 0 := by omega
      simp [h1, h2, D_zero]
theorem Nm_last {l : List Int} {d : Int} (h : Nm (l ++ [d])) : d ≠ 0 := by
  intro e; subst e
  have h2 := D_len_le h.dg.left
  have h3 : D (V (l ++ [0])) = l ++ [0] := h
  rw [V_snoc_zero] at h3
  rw [h3] at h2
  simp at h2
  omega
theorem Nm_iff {l : List Int} (h : Dg l) : Nm l ↔ l = [] ∨ l.getD (l.length - 1) 0 ≠ 0 := by
  rcases List.eq_nil_or_concat l with rfl | ⟨a, d, rfl⟩
  · simp [Nm_nil]
  · rw [List.concat_eq_append] at h ⊢
    have : (a ++ [d]).getD ((a ++ [d]).length - 1) 0 = d := by simp
    rw [this]
    constructor
    · intro k; exact .inr (Nm_last k)
    · rintro (k | k)
      · simp at k
      · have := h d (by simp)
        exact Nm_snoc h.left (by omega) this.2
theorem D_len_lt {n k : Nat} (h : n < 4294967296 ^ k) : (D n).length ≤ k := by
  induction k generalizing n with
  | zero => have : n = 0 := by simpa using h
            subst this; simp [D_zero]
  | succ k ih =>
    by_cases e : n = 0
    · subst e; simp [D_zero]
    · rw [D_pos e, List.length_cons]
      have := ih (n := n / 4294967296) (by rw [Nat.pow_succ] at h; omega)
      omega
theorem lt_D_len (n : Nat) : n < 4294967296 ^ (D n).length := by
  have := V_lt (Dg_D n); rwa [V_D] at this
theorem D_len_ge {n : Nat} (h : n ≠ 0) : 4294967296 ^ ((D n).length - 1) ≤ n := by
  apply Nat.le_of_not_lt
  intro k
  have := D_len_lt k
  have : (D n).length ≠ 0 := by rw [D_pos h]; simp
  omega
theorem D_len_mono {a b : Nat} (h : a ≤ b) : (D a).length ≤ (D b).length :=
  D_len_lt (Nat.lt_of_le_of_lt h (lt_D_len b))
theorem lt_of_D_len {a b : Nat} (h : (D a).length < (D b).length) : a < b := by
  apply Nat.lt_of_not_le
  intro k
  have := D_len_mono k
  omega
theorem Nm.len {l : List Int} (h : Nm l) : (D (V l)).length = l.length := by rw [h]
theorem Nm.lt_of_len {a b : List Int} (h : Nm a) (k : Nm b) (e : a.length < b.length) : V a < V b := by
  apply lt_of_D_len; rw [h, k]; exact e
end Go.Proofs.YtbcjdlljmhfhdaaGreatDoor.Eng.K

/- Texts as lists of bytes. -/
namespace Go.Proofs.YtbcjdlljmhfhdaaGreatDoor.Eng.K
open Go.RowKit Go.Proofs Go.Proofs.YtbcjdlljmhfhdaaGreatDoor.Eng
/-- a text's bytes -/
def tl (s : ByteArray) : List UInt8 := s.data.toList
theorem tl_len (s : ByteArray) : (tl s).length = s.size := by simp [tl]
theorem tl_inj {a b : ByteArray} : tl a = tl b ↔ a = b := ⟨fun h => by
  cases a; cases b
  congr
  exact Array.toList_inj.1 h, fun h => by rw [h]⟩
theorem tl_app (a b : ByteArray) : tl (a ++ b) = tl a ++ tl b := by simp [tl]
theorem tl_ext (s : ByteArray) (i j : Nat) : tl (s.extract i j) = ((tl s).take j).drop i := by
  simp only [tl, ByteArray.data_extract, Array.toList_extract, List.extract_eq_take_drop]
  rw [List.take_drop, List.drop_take, List.drop_take]
  congr 1
  omega
theorem tl_nil {s : ByteArray} : tl s = [] ↔ s = ⟨#[]⟩ := by
  rw [← tl_inj]
  simp [tl]
theorem tl_strOf (l : List Int) : tl (strOf l) = l.map fun n => UInt8.ofNat n.toNat := rfl
theorem tl_size_eq (s : ByteArray) : s.size = (tl s).length := (tl_len s).symm
theorem bt_eq (s : ByteArray) (i : Int) : bt s i = (((tl s).getD i.toNat 0).toNat : Int) := by
  unfold bt tl
  split
  · rename_i h
    have : i.toNat < s.data.toList.length := by simpa using h
    simp [List.getD, List.getElem?_eq_getElem this]
    rfl
  · rename_i h
    have : ¬ i.toNat < s.data.toList.length := by simpa using h
    simp [List.getD, List.getElem?_eq_none (by omega : s.data.toList.length ≤ i.toNat)]
end Go.Proofs.YtbcjdlljmhfhdaaGreatDoor.Eng.K
namespace Go.Proofs.YtbcjdlljmhfhdaaGreatDoor.Eng.K
open Go.RowKit Go.Proofs Go.Proofs.YtbcjdlljmhfhdaaGreatDoor.Eng
theorem dec_big (s : ByteArray) (i : Nat) (h : i < s.size) (ha : 128 ≤ (s[i]'h).toNat) : 128 ≤ (Utf8.decode s i).1 := by
  have e : s.get! (i + 0) = s[i]'h := by
    show s.get! i = _
    simp [ByteArray.get!, getElem!_pos, h]
    rfl
  unfold Utf8.decode
  simp only [e]
  rw [if_neg (by omega)]
  repeat' split
  all_goals first
    | (show 128 ≤ Utf8.runeError; decide)
    | (rename_i hc; simp only [Bool.and_eq_true, decide_eq_true_eq] at hc; show 128 ≤ _; omega)
    | (rename_i hc; show 128 ≤ _; omega)
end Go.Proofs.YtbcjdlljmhfhdaaGreatDoor.Eng.K

/- Texts to the base 16 in plain words: digits, exponents, what a text says. -/
namespace Go.Proofs.YtbcjdlljmhfhdaaGreatDoor.Eng.K
/-- a hexadecimal digit's value -/
def hx (b : UInt8) : Option Nat := if 48 ≤ b.toNat ∧ b.toNat ≤ 57 then some (b.toNat - 48) else if 97 ≤ b.toNat ∧ b.toNat ≤ 102 then some (b.toNat - 87) else none
def isH (b : UInt8) : Bool := (hx b).isSome
/-- digits' value, behind another one -/
def hval (l : List UInt8) (a : Nat) : Nat := l.foldl (fun a b => 16 * a + (hx b).getD 0) a
def isD (b : UInt8) : Bool := decide (48 ≤ b.toNat ∧ b.toNat ≤ 57)
def dval (l : List UInt8) (a : Nat) : Nat := l.foldl (fun a b => 10 * a + (b.toNat - 48)) a
/-- an exponent's sign, and what stands behind it -/
def expN : List UInt8 → Bool
  | 45 :: _ => true
  | _ => false
def expR : List UInt8 → List UInt8
  | 45 :: r => r
  | 43 :: r => r
  | r => r
def expOk (E : List UInt8) : Bool := decide (expR E ≠ []) && decide ((expR E).length ≤ 6) && (expR E).all isD
def expV (E : List UInt8) : Int := if expN E = true then -(dval (expR E) 0 : Int) else dval (expR E) 0
/-- what stands behind 0x: the digits, the exponent -/
structure Rd (l W P E : List UInt8) (pt : Bool) : Prop where
  l : l = W ++ (if pt = true then 46 :: P else []) ++ 112 :: E
  w : W ≠ []
  hw : W.all isH = true
  hp : P.all isH = true
  p : if pt = true then P ≠ [] else P = []
  e : expOk E = true
/-- by the first byte: p, a point, or neither -/
def onPQ {α : Type} (f g : List UInt8 → α) (d : α) : List UInt8 → α
  | 112 :: E => f E
  | 46 :: r => g r
  | _ => d
theorem onPQ_no {α : Type} (f g : List UInt8 → α) (d : α) {x : UInt8} {r : List UInt8} (h1 : x ≠ 112) (h2 : x ≠ 46) : onPQ f g d (x :: r) = d := by
  unfold onPQ
  split
  · rename_i h; exact absurd (List.cons.inj h).1 h1
  · rename_i h; exact absurd (List.cons.inj h).1 h2
  · rfl
theorem onPQ_map {α β : Type} (h : α → β) (f g : List UInt8 → α) (d : α) (l : List UInt8) : h (onPQ f g d l) = onPQ (fun E => h (f E)) (fun r => h (g r)) (h d) l := by
  cases l with
  | nil => rfl
  | cons x r =>
    by_cases c1 : x = 112
    · subst c1; rfl
    · by_cases c2 : x = 46
      · subst c2; rfl
      · rw [onPQ_no _ _ _ c1 c2, onPQ_no _ _ _ c1 c2]
def readS (l : List UInt8) : Option (Nat × Int) :=
  if l.takeWhile isH = [] then none else
  onPQ (fun E => if expOk E = true then some (hval (l.takeWhile isH) 0, expV E) else none)
    (fun r => if r.takeWhile isH = [] then none else onPQ (fun E => if expOk E = true then some (hval (l.takeWhile isH ++ r.takeWhile isH) 0, expV E - 4 * ((r.takeWhile isH).length : Int)) else none) (fun _ => none) none (r.dropWhile isH))
    none (l.dropWhile isH)
theorem tw_all {α : Type} (p : α → Bool) (l : List α) : (l.takeWhile p).all p = true := by
  induction l with
  | nil => rfl
  | cons a l ih => by_cases h : p a = true <;> simp [h]
theorem tw_dw {α : Type} (p : α → Bool) (l : List α) : l.takeWhile p ++ l.dropWhile p = l := List.takeWhile_append_dropWhile
theorem tw_app {α : Type} {p : α → Bool} {A : List α} {c : α} {r : List α} (hA : A.all p = true) (hc : p c = false) : (A ++ c :: r).takeWhile p = A ∧ (A ++ c :: r).dropWhile p = c :: r := by
  induction A with
  | nil => simp [hc]
  | cons a A ih =>
    simp only [List.all_cons, Bool.and_eq_true] at hA
    obtain ⟨h1, h2⟩ := ih hA.2
    simp [hA.1, h1, h2]
theorem hx112 : isH 112 = false := by decide
theorem hx46 : isH 46 = false := by decide
theorem readS_of {l W P E : List UInt8} {pt : Bool} (h : Rd l W P E pt) : readS l = some (hval (W ++ P) 0, expV E - 4 * (P.length : Int)) := by
  obtain ⟨rfl, w, hw, hp, p, e⟩ := h
  cases pt with
  | false =>
    simp only [Bool.false_eq_true, if_false] at p ⊢
    subst p
    obtain ⟨h1, h2⟩ := tw_app (r := E) hw hx112
    unfold readS
    rw [List.append_nil, h1, h2, if_neg w]
    show (if expOk E = true then _ else _) = _
    rw [if_pos e]
    simp
  | true =>
    simp only [if_true] at p ⊢
    have h0 : W ++ 46 :: P ++ 112 :: E = W ++ 46 :: (P ++ 112 :: E) := by simp
    obtain ⟨h1, h2⟩ := tw_app (r := P ++ 112 :: E) hw hx46
    obtain ⟨h3, h4⟩ := tw_app (r := E) hp hx112
    unfold readS
    rw [h0, h1, h2, if_neg w]
    show (if (P ++ 112 :: E).takeWhile isH = [] then _ else _) = _
    rw [h3, h4, if_neg p]
    show (if expOk E = true then _ else _) = _
    rw [if_pos e]
theorem readS_none {l : List UInt8} (h : ∀ W P E pt, ¬ Rd l W P E pt) : readS l = none := by
  unfold readS
  split
  · rfl
  · rename_i hW
    have h0 := tw_dw isH l
    cases hd : l.dropWhile isH with
    | nil => rfl
    | cons x r =>
      rw [hd] at h0
      by_cases c1 : x = 112
      · subst c1
        show (if expOk r = true then _ else _) = _
        by_cases e : expOk r = true
        · exact absurd (⟨by simpa using h0.symm, hW, tw_all _ _, rfl, rfl, e⟩ : Rd l (l.takeWhile isH) [] r false) (h _ _ _ _)
        · rw [if_neg e]
      by_cases c2 : x = 46
      · subst c2
        show (if r.takeWhile isH = [] then _ else _) = _
        by_cases hP : r.takeWhile isH = []
        · rw [if_pos hP]
        · rw [if_neg hP]
          have h1 := tw_dw isH r
          cases hd2 : r.dropWhile isH with
          | nil => rfl
          | cons y E =>
            rw [hd2] at h1
            by_cases c3 : y = 112
            · subst c3
              show (if expOk E = true then _ else _) = _
              by_cases e : expOk E = true
              · refine absurd (⟨?_, hW, tw_all _ _, tw_all _ _, by simpa using hP, e⟩ : Rd l (l.takeWhile isH) (r.takeWhile isH) E true) (h _ _ _ _)
                simp only [if_true]
                rw [List.append_assoc, List.cons_append, h1]
                exact h0.symm
              · rw [if_neg e]
            · by_cases c4 : y = 46
              · subst c4; rfl
              · exact onPQ_no _ _ _ c3 c4
      · exact onPQ_no _ _ _ c1 c2
theorem readS_some {l : List UInt8} {x : Nat × Int} (h : readS l = some x) : ∃ W P E pt, Rd l W P E pt ∧ x = (hval (W ++ P) 0, expV E - 4 * (P.length : Int)) := by
  by_cases k : ∃ W P E pt, Rd l W P E pt
  · obtain ⟨W, P, E, pt, k⟩ := k
    refine ⟨W, P, E, pt, k, ?_⟩
    have h2 := readS_of k
    rw [h] at h2
    exact (Option.some.inj h2)
  · rw [readS_none (fun W P E pt h2 => k ⟨W, P, E, pt, h2⟩)] at h
    cases h
theorem hval_app (a b : List UInt8) (n : Nat) : hval (a ++ b) n = hval b (hval a n) := by unfold hval; rw [List.foldl_append]
theorem hx_lt {b : UInt8} : (hx b).getD 0 < 16 := by
  unfold hx
  split
  · simp; omega
  · split
    · simp; omega
    · simp
theorem hval_acc (l : List UInt8) (n : Nat) : hval l n = n * 16 ^ l.length + hval l 0 := by
  induction l generalizing n with
  | nil => simp [hval]
  | cons a l ih =>
    have h : ∀ m, hval (a :: l) m = hval l (16 * m + (hx a).getD 0) := fun m => rfl
    rw [h, h, ih, ih (16 * 0 + _), List.length_cons, Nat.pow_succ]
    grind
theorem hval_lt (l : List UInt8) : hval l 0 < 16 ^ l.length := by
  induction l with
  | nil => simp [hval]
  | cons a l ih =>
    have h : hval (a :: l) 0 = hval l (16 * 0 + (hx a).getD 0) := rfl
    have := hx_lt (b := a)
    rw [h, hval_acc, List.length_cons, Nat.pow_succ]
    have : (16 * 0 + (hx a).getD 0) * 16 ^ l.length ≤ 15 * 16 ^ l.length := Nat.mul_le_mul_right _ (by omega)
    omega
theorem dval_lt (l : List UInt8) (hl : l.all isD = true) (n : Nat) : dval l n < (n + 1) * 10 ^ l.length := by
  induction l generalizing n with
  | nil => simp [dval]
  | cons a l ih =>
    simp only [List.all_cons, Bool.and_eq_true] at hl
    have h : dval (a :: l) n = dval l (10 * n + (a.toNat - 48)) := rfl
    have h1 := hl.1
    simp only [isD, decide_eq_true_eq] at h1
    have := ih hl.2 (10 * n + (a.toNat - 48))
    rw [h, List.length_cons, Nat.pow_succ]
    have h2 : (10 * n + (a.toNat - 48) + 1) * 10 ^ l.length ≤ ((n + 1) * 10) * 10 ^ l.length := Nat.mul_le_mul_right _ (by omega)
    have h3 : (n + 1) * (10 ^ l.length * 10) = ((n + 1) * 10) * 10 ^ l.length := by rw [Nat.mul_assoc, Nat.mul_comm 10]
    omega
theorem expV_b {E : List UInt8} (h : expOk E = true) : -1000000 < expV E ∧ expV E < 1000000 := by
  simp only [expOk, Bool.and_eq_true, decide_eq_true_eq] at h
  have h1 := dval_lt (expR E) h.2 0
  have h2 : 10 ^ (expR E).length ≤ 10 ^ 6 := Nat.pow_le_pow_right (by omega) h.1.2
  unfold expV
  split <;> omega
end Go.Proofs.YtbcjdlljmhfhdaaGreatDoor.Eng.K
namespace Go.Proofs.YtbcjdlljmhfhdaaGreatDoor.Eng.K
end Go.Proofs.YtbcjdlljmhfhdaaGreatDoor.Eng.K

/- The first layer's plain functions: trimmed lists, comparisons, sums and differences are the numbers' own. -/
set_option linter.unusedVariables false
set_option linter.unusedSimpArgs false
namespace Go.Proofs.YtbcjdlljmhfhdaaGreatDoor.Eng.K
open Go.RowKit

theorem w64s {n : Nat} (h : n < 4611686018427387904) : wrap64 ((n : Int) + 1) = ((n + 1 : Nat) : Int) := by unfold wrap64; omega
theorem w64p {n : Nat} (h : n < 4611686018427387904) : wrap64 (((n + 1 : Nat) : Int) - 1) = (n : Int) := by unfold wrap64; omega

/-! ### trimmed -/
theorem trim_ev : ∀ (n : Nat) (l : List Int), l.length = n → Dg l → n < 4611686018427387904 → Ev (fun k => nat_trim.f k l) (D (V l))
  | 0, l, hn, hd, hb => by
    have : l = [] := List.eq_nil_of_length_eq_zero hn
    subst this
    refine ev_step (ev_const ?_)
    simp [nat_trim.f, nat_trim.l0, D_zero]
  | n + 1, l, hn, hd, hb => by
    rcases List.eq_nil_or_concat l with rfl | ⟨a, d, rfl⟩
    · simp at hn
    rw [List.concat_eq_append] at hn hd ⊢
    have hl : (a ++ [d]).length = n + 1 := hn
    have ha : a.length = n := by simpa using hn
    refine ev_step ?_
    show Ev (fun k => nat_trim.l0 (k + 1) (a ++ [d])) _
    simp only [nat_trim.l0, hl, w64p (n := n) (by omega)]
    refine ev_pos (by omega) (ev_pos (by omega) (ev_pos (by omega) ?_))
    rw [rd_app (by omega)]
    by_cases h0 : d = 0
    · subst h0
      refine ev_pos rfl (ev_pos (by omega) ?_)
      rw [V_snoc_zero]
      have : (a ++ [(0 : Int)]).take (n : Int).toNat = a := by simp [← ha]
      rw [this]
      exact ev_pos (by omega) (trim_ev n a ha hd.left (by omega))
    · refine ev_neg h0 ?_
      have := hd d (by simp)
      rw [Nm_snoc hd.left (by omega) this.2]
      exact Ev.now _
theorem nat_trim_ev {l : List Int} (hd : Dg l) (hb : l.length < 4611686018427387904) : Ev (fun k => nat_trim.f k l) (D (V l)) := trim_ev _ l rfl hd hb
theorem rtrim_ev (l : List Int) (hd : Dg l) (hb : l.length < 4611686018427387904) : ∀ (n : Nat) (a b : List Int), a.length = n → l = a ++ b → V b = 0 → Ev (fun k => cutplaneref01_Trim.l0 k l n) (D (V l))
  | 0, a, b, hn, he, h0 => by
    have : a = [] := List.eq_nil_of_length_eq_zero hn
    subst this
    refine ev_step ?_
    simp only [cutplaneref01_Trim.l0]
    refine ev_neg (by omega) (ev_pos (by omega) (ev_pos (by omega) ?_))
    rw [he]; simp [h0, D_zero]; exact Ev.now _
  | n + 1, a, b, hn, he, h0 => by
    rcases List.eq_nil_or_concat a with rfl | ⟨a, d, rfl⟩
    · simp at hn
    rw [List.concat_eq_append] at hn he
    have ha : a.length = n := by simpa using hn
    have hl : l.length = n + 1 + b.length := by rw [he]; simp [ha]; omega
    refine ev_step ?_
    simp only [cutplaneref01_Trim.l0, w64p (n := n) (by omega)]
    refine ev_pos (by omega) (ev_pos (by omega) (ev_pos (by omega) ?_))
    have hr : rd l n = d := by rw [he, List.append_assoc]; exact rd_app (by omega)
    rw [hr]
    by_cases hz : d = 0
    · refine ev_pos hz ?_
      exact rtrim_ev l hd hb n a (d :: b) ha (by rw [he]; simp) (by simp [h0, hz])
    · refine ev_neg hz (ev_pos (by omega) (ev_pos (by omega) ?_))
      have hd2 := hd
      rw [he] at hd2
      have h1 := hd2.left d (by simp)
      have h2 : V l = V (a ++ [d]) := by rw [he, V_append (a ++ [d]) b, h0]; simp
      have h3 : l.take ((n + 1 : Nat) : Int).toNat = a ++ [d] := by
        rw [he, Int.toNat_natCast]; exact List.take_left' (by simp [ha])
      rw [h3, h2, Nm_snoc hd2.left.left (by omega) h1.2]
      exact Ev.now _
theorem ref_Trim_ev {l : List Int} (hd : Dg l) (hb : l.length < 4611686018427387904) : Ev (fun k => cutplaneref01_Trim.f k l) (D (V l)) :=
  rtrim_ev l hd hb l.length l [] rfl (by simp) rfl
theorem V_two (n : Int) (h0 : 0 ≤ n) (h1 : n < 18446744073709551616) : V [n % 4294967296, (n / 4294967296) % 4294967296] = n.toNat := by
  simp; omega
theorem Dg_two (n : Int) : Dg [n % 4294967296, (n / 4294967296) % 4294967296] := Dg.cons (by omega) (by omega) (Dg.cons (by omega) (by omega) Dg.nil)
theorem nat_Of_ev {n : Int} (h0 : 0 ≤ n) (h1 : n < 18446744073709551616) : Ev (fun k => nat_Of.f k n) (D n.toNat) := by
  unfold nat_Of.f
  refine Ev.bind (nat_trim_ev (Dg_two n) (by simp)) ?_
  rw [V_two n h0 h1]; exact Ev.now _
theorem ref_Of_ev {n : Int} (h0 : 0 ≤ n) (h1 : n < 18446744073709551616) : Ev (fun k => cutplaneref01_Of.f k n) (D n.toNat) := by
  unfold cutplaneref01_Of.f
  refine Ev.bind (ref_Trim_ev (Dg_two n) (by simp)) ?_
  rw [V_two n h0 h1]; exact Ev.now _

/-! ### the same digits -/
theorem same_l0 (x y : List Int) (hl : x.length = y.length) (hb : x.length < 4611686018427387904) : ∀ (d n : Nat), n + d = x.length → Ev (fun k => cutplaneref01_Same.l0 k x y n) (decide (x.drop n = y.drop n))
  | 0, n, h => by
    refine ev_step ?_
    simp only [cutplaneref01_Same.l0]
    refine ev_neg (by omega) ?_
    rw [List.drop_eq_nil_of_le (by omega), List.drop_eq_nil_of_le (by omega)]
    exact Ev.now _
  | d + 1, n, h => by
    refine ev_step ?_
    simp only [cutplaneref01_Same.l0, w64s (n := n) (by omega)]
    refine ev_pos (by omega) (ev_pos (by omega) (ev_pos (by omega) (ev_pos (by omega) (ev_pos (by omega) ?_))))
    have hx : n < x.length := by omega
    have hy : n < y.length := by omega
    have e1 : rd x n = x[n] := by rw [rdn]; simp [hx]
    have e2 : rd y n = y[n] := by rw [rdn]; simp [hy]
    have d1 := List.drop_eq_getElem_cons hx
    have d2 := List.drop_eq_getElem_cons hy
    rw [e1, e2]
    by_cases he : x[n] = y[n]
    · refine ev_neg (fun h => h he) ?_
      refine ev_eq (same_l0 x y hl hb d (n + 1) (by omega)) ?_
      exact decide_eq_decide.2 ⟨fun h => by rw [d1, d2, he, h], fun h => by rw [d1, d2] at h; exact (List.cons.inj h).2⟩
    · refine ev_pos he ?_
      refine ev_eq (Ev.now _) ?_
      exact (decide_eq_false (fun h => by rw [d1, d2] at h; exact he (List.cons.inj h).1)).symm
theorem ref_Same_ev (x y : List Int) (hb : x.length < 4611686018427387904) : Ev (fun k => cutplaneref01_Same.f k x y) (decide (x = y)) := by
  unfold cutplaneref01_Same.f
  by_cases h : x.length = y.length
  · refine ev_neg (by omega) ?_
    exact ev_eq (same_l0 x y h hb x.length 0 (by omega)) (by simp)
  · refine ev_pos (by omega) ?_
    refine ev_eq (Ev.now _) ?_
    have : x ≠ y := fun e => h (by rw [e])
    simp [this]

/-! ### which lists are numbers -/
def may (l : List Int) : Bool := decide (l.length ≤ 4096) && decide (Nm l)
theorem may_iff {l : List Int} : may l = true ↔ l.length ≤ 4096 ∧ Nm l := by simp [may]
theorem nat_May_eq {l : List Int} (h : Dg l) (hb : l.length < 4611686018427387904) : nat_May.f l = some (may l) := by
  unfold nat_May.f may
  by_cases h1 : l.length ≤ 4096
  · rw [if_pos (by omega)]
    by_cases h2 : l.length = 0
    · have : l = [] := List.eq_nil_of_length_eq_zero h2
      subst this; simp [Nm_nil]
    · rw [if_neg (by omega)]
      have e : wrap64 ((l.length : Int) - 1) = ((l.length - 1 : Nat) : Int) := by unfold wrap64; omega
      rw [e, if_pos (by omega), if_pos (by omega), rdn]
      have h3 : l ≠ [] := fun e => h2 (by rw [e]; rfl)
      have h4 := Nm_iff h
      by_cases h5 : l.getD (l.length - 1) 0 = 0
      · have : ¬ Nm l := fun k => by rcases h4.1 k with k | k <;> contradiction
        rw [h5]; simp [this]
      · have : Nm l := h4.2 (.inr h5)
        simp only [h5, not_false_eq_true, decide_true]; simp [h1, this]
  · rw [if_neg (by omega)]; simp [h1]
/-! ### sums -/
theorem Dg.headD {b : List Int} (h : Dg b) : 0 ≤ b.headD 0 ∧ b.headD 0 < 4294967296 := by
  cases b with
  | nil => simp
  | cons y b => exact h.head
theorem Dg.tl {b : List Int} (h : Dg b) : Dg b.tail := by
  cases b with
  | nil => exact h
  | cons y b => exact h.tail
theorem V_headtail (b : List Int) : V b = (b.headD 0).toNat + 4294967296 * V b.tail := by
  cases b <;> simp
theorem drop_headD (b : List Int) (n : Nat) : (b.drop n).headD 0 = b.getD n 0 := by
  rw [List.headD_eq_head?_getD, List.head?_drop, List.getD_eq_getElem?_getD]
end Go.Proofs.YtbcjdlljmhfhdaaGreatDoor.Eng.K

/- The first layer's plain functions: comparisons and differences; a number's value. -/
set_option linter.unusedVariables false
set_option linter.unusedSimpArgs false
namespace Go.Proofs.YtbcjdlljmhfhdaaGreatDoor.Eng.K
open Go.RowKit

/-! ### which is above which -/
def cmpN (m n : Nat) : Int := if m < n then -1 else if n < m then 1 else 0
theorem V_take_succ {l : List Int} {n : Nat} (h : n < l.length) : V (l.take (n + 1)) = V (l.take n) + 4294967296 ^ n * (l.getD n 0).toNat := by
  rw [List.take_succ_eq_append_getElem h, V_append]
  simp [Nat.min_eq_left (Nat.le_of_lt h), h]
theorem top_lt {p q P d e : Nat} (hp : p < P) (h : d < e) : p + P * d < q + P * e := by
  have : P * (d + 1) ≤ P * e := Nat.mul_le_mul_left _ h
  rw [Nat.mul_add] at this
  omega
theorem V_take_lt {l : List Int} (h : Dg l) {n : Nat} (hn : n ≤ l.length) : V (l.take n) < 4294967296 ^ n := by
  have := V_lt (h.take n); rwa [List.length_take, Nat.min_eq_left hn] at this
theorem cmp_top {x y : List Int} (hx : Dg x) (hy : Dg y) {n : Nat} (h1 : n < x.length) (h2 : n < y.length) :
    cmpN (V (x.take (n + 1))) (V (y.take (n + 1))) = if x.getD n 0 = y.getD n 0 then cmpN (V (x.take n)) (V (y.take n)) else if x.getD n 0 < y.getD n 0 then -1 else 1 := by
  rw [V_take_succ h1, V_take_succ h2]
  have a := hx.getD n
  have b := hy.getD n
  have p := V_take_lt hx (Nat.le_of_lt h1)
  have q := V_take_lt hy (Nat.le_of_lt h2)
  by_cases e : x.getD n 0 = y.getD n 0
  · rw [if_pos e, e]; unfold cmpN; simp
  · rw [if_neg e]
    by_cases c : x.getD n 0 < y.getD n 0
    · rw [if_pos c]
      have := top_lt (q := V (y.take n)) p (show (x.getD n 0).toNat < (y.getD n 0).toNat by omega)
      unfold cmpN; rw [if_pos this]
    · rw [if_neg c]
      have := top_lt (q := V (x.take n)) q (show (y.getD n 0).toNat < (x.getD n 0).toNat by omega)
      unfold cmpN; rw [if_neg (by omega), if_pos this]
theorem w64m {n : Nat} (h : n < 4611686018427387904) : wrap64 ((n : Int) - 1) = (n : Int) - 1 := by unfold wrap64; omega
theorem rcmp_l0 {x y : List Int} (hx : Dg x) (hy : Dg y) (hb : x.length < 4611686018427387904) : ∀ (n : Nat), n ≤ x.length → n ≤ y.length → Ev (fun k => cutplaneref01_Cmp.l0 k x y ((n : Int) - 1)) (cmpN (V (x.take n)) (V (y.take n)))
  | 0, _, _ => by
    refine ev_step ?_
    simp only [cutplaneref01_Cmp.l0]
    (repeat (first | (with_reducible refine ev_pos ?_ ?_; focus (first | omega | assumption | (simp; done) | (simp; omega))) | (with_reducible refine ev_neg ?_ ?_; focus (first | omega | assumption | (simp; done) | (simp; omega))))); exact Ev.now _
  | n + 1, h1, h2 => by
    refine ev_step ?_
    simp only [cutplaneref01_Cmp.l0]
    have e : ((n + 1 : Nat) : Int) - 1 = (n : Int) := by omega
    rw [e, w64m (n := n) (by omega)]
    (repeat (first | (with_reducible refine ev_pos ?_ ?_; focus (first | omega | assumption | (simp; done) | (simp; omega))) | (with_reducible refine ev_neg ?_ ?_; focus (first | omega | assumption | (simp; done) | (simp; omega)))))
    rw [cmp_top hx hy (by omega) (by omega), rdn, rdn]
    by_cases c2 : x.getD n 0 < y.getD n 0
    · (repeat (first | (with_reducible refine ev_pos ?_ ?_; focus (first | omega | assumption | (simp; done) | (simp; omega))) | (with_reducible refine ev_neg ?_ ?_; focus (first | omega | assumption | (simp; done) | (simp; omega)))))
      rw [if_neg (by omega), if_pos c2]; exact Ev.now _
    · (repeat (first | (with_reducible refine ev_pos ?_ ?_; focus (first | omega | assumption | (simp; done) | (simp; omega))) | (with_reducible refine ev_neg ?_ ?_; focus (first | omega | assumption | (simp; done) | (simp; omega)))))
      by_cases c : x.getD n 0 > y.getD n 0
      · (repeat (first | (with_reducible refine ev_pos ?_ ?_; focus (first | omega | assumption | (simp; done) | (simp; omega))) | (with_reducible refine ev_neg ?_ ?_; focus (first | omega | assumption | (simp; done) | (simp; omega)))))
        rw [if_neg (by omega), if_neg c2]; exact Ev.now _
      · (repeat (first | (with_reducible refine ev_pos ?_ ?_; focus (first | omega | assumption | (simp; done) | (simp; omega))) | (with_reducible refine ev_neg ?_ ?_; focus (first | omega | assumption | (simp; done) | (simp; omega)))))
        rw [if_pos (by omega)]
        exact rcmp_l0 hx hy hb n (by omega) (by omega)
theorem ref_Cmp_ev {x y : List Int} (hx : Nm x) (hy : Nm y) (hb : x.length < 4611686018427387904) : Ev (fun k => cutplaneref01_Cmp.f k x y) (cmpN (V x) (V y)) := by
  unfold cutplaneref01_Cmp.f
  by_cases e : x.length = y.length
  · (repeat (first | (with_reducible refine ev_pos ?_ ?_; focus (first | omega | assumption | (simp; done) | (simp; omega))) | (with_reducible refine ev_neg ?_ ?_; focus (first | omega | assumption | (simp; done) | (simp; omega)))))
    rw [w64m (by omega)]
    have := rcmp_l0 hx.dg hy.dg hb x.length (by omega) (by omega)
    rwa [List.take_length, e, List.take_length, ← e] at this
  · (repeat (first | (with_reducible refine ev_pos ?_ ?_; focus (first | omega | assumption | (simp; done) | (simp; omega))) | (with_reducible refine ev_neg ?_ ?_; focus (first | omega | assumption | (simp; done) | (simp; omega)))))
    by_cases c : x.length < y.length
    · (repeat (first | (with_reducible refine ev_pos ?_ ?_; focus (first | omega | assumption | (simp; done) | (simp; omega))) | (with_reducible refine ev_neg ?_ ?_; focus (first | omega | assumption | (simp; done) | (simp; omega)))))
      unfold cmpN; rw [if_pos (hx.lt_of_len hy c)]; exact Ev.now _
    · (repeat (first | (with_reducible refine ev_pos ?_ ?_; focus (first | omega | assumption | (simp; done) | (simp; omega))) | (with_reducible refine ev_neg ?_ ?_; focus (first | omega | assumption | (simp; done) | (simp; omega)))))
      have := hy.lt_of_len hx (by omega)
      unfold cmpN; rw [if_neg (by omega), if_pos this]; exact Ev.now _
/-! ### differences -/
theorem half (n : Nat) : n >>> 31 = n / 2147483648 := by rw [Nat.shiftRight_eq_div_pow]
def subRec : List Int → List Int → Int → List Int
  | [], _, _ => []
  | x :: a, b, c => ((x - b.headD 0 - c) % 4294967296) :: subRec a b.tail (if x < b.headD 0 + c then 1 else 0)
theorem subRec_V {a b : List Int} {c : Int} (ha : Dg a) (hb : Dg b) (hc : 0 ≤ c ∧ c ≤ 1) (hl : b.length ≤ a.length) (h : V b + c.toNat ≤ V a) : V (subRec a b c) = V a - V b - c.toNat ∧ Dg (subRec a b c) := by
  induction a generalizing b c with
  | nil =>
    have : b = [] := List.eq_nil_of_length_eq_zero (by simpa using hl)
    subst this
    exact ⟨by simp [subRec], Dg.nil⟩
  | cons x a ih =>
    have hx := ha.head
    have hy := hb.headD
    rw [V_headtail b, V_cons] at h
    have := ih (b := b.tail) (c := if x < b.headD 0 + c then 1 else 0) ha.tail hb.tl (by split <;> omega) (by simp at hl ⊢; omega) (by split <;> omega)
    refine ⟨?_, Dg.cons (by omega) (by omega) this.2⟩
    rw [subRec, V_cons, this.1, V_headtail b, V_cons]
    split <;> omega
/-! ### the references' sums and differences: appended digit by digit -/
theorem radd_l0 (A Bl : List Int) (hA : Dg A) (hB : Dg Bl) (hl : A.length < 1000000000) (hl2 : Bl.length < 1000000000) : ∀ (d : Nat) (done : List Int) (c : Int), done.length + d = max A.length Bl.length → 0 ≤ c ∧ c ≤ 1 → Dg done →
    V done + 4294967296 ^ done.length * (V (A.drop done.length) + V (Bl.drop done.length) + c.toNat) = V A + V Bl →
    Ev (fun k => cutplaneref01_Add.l0 k A Bl done c done.length) (D (V A + V Bl))
  | 0, done, c, hd, hc, hg, hv => by
    refine ev_step ?_
    simp only [cutplaneref01_Add.l0]
    (repeat (first | (with_reducible refine ev_pos ?_ ?_; focus (first | omega | assumption | (simp; done) | (simp; omega))) | (with_reducible refine ev_neg ?_ ?_; focus (first | omega | assumption | (simp; done) | (simp; omega)))))
    have e : c % 4294967296 = c := by omega
    rw [e]
    refine Ev.bind (ref_Trim_ev (hg.app (Dg.cons hc.1 (by omega) Dg.nil)) (by simp; omega)) ?_
    refine ev_eq (Ev.now _) ?_
    rw [List.drop_eq_nil_of_le (by omega), List.drop_eq_nil_of_le (by omega)] at hv
    rw [V_append, ← hv]; simp
  | d + 1, done, c, hd, hc, hg, hv => by
    have ha := hA.rd (done.length : Int)
    have hb := hB.rd (done.length : Int)
    have hx := V_headtail (A.drop done.length)
    have hy := V_headtail (Bl.drop done.length)
    rw [drop_headD, List.tail_drop] at hx hy
    -- one round, whatever the digits
    have key : ∀ (s : Int), s = A.getD done.length 0 + Bl.getD done.length 0 + c → Ev (fun k => cutplaneref01_Add.l0 k A Bl (done ++ [s % 4294967296]) (s / 4294967296) ((done.length + 1 : Nat) : Int)) (D (V A + V Bl)) := by
      intro s hs
      have ha' := hA.getD done.length
      have hb' := hB.getD done.length
      have := radd_l0 A Bl hA hB hl hl2 d (done ++ [s % 4294967296]) (s / 4294967296) (by simp; omega) (by omega) (hg.app (Dg.cons (by omega) (by omega) Dg.nil)) (by
        rw [V_append, List.length_append, List.length_singleton, Nat.pow_succ, Nat.mul_assoc, Nat.add_assoc, ← Nat.mul_add, ← hv]
        congr 2
        simp only [V_cons, V_nil]
        omega)
      rwa [List.length_append, List.length_singleton] at this
    have hr : ∀ l : List Int, rd l (done.length : Int) = l.getD done.length 0 := fun l => rdn l _
    refine ev_step ?_
    simp only [cutplaneref01_Add.l0]
    by_cases c1 : done.length < A.length
    · (repeat (first | (with_reducible refine ev_pos ?_ ?_; focus (first | omega | assumption | (simp; done) | (simp; omega))) | (with_reducible refine ev_neg ?_ ?_; focus (first | omega | assumption | (simp; done) | (simp; omega)))))
      refine ev_step ?_
      simp only [cutplaneref01_Add.j2]
      by_cases c2 : done.length < Bl.length
      · (repeat (first | (with_reducible refine ev_pos ?_ ?_; focus (first | omega | assumption | (simp; done) | (simp; omega))) | (with_reducible refine ev_neg ?_ ?_; focus (first | omega | assumption | (simp; done) | (simp; omega)))))
        refine ev_step ?_
        simp only [cutplaneref01_Add.j3, w64s (n := done.length) (by omega)]
        (repeat (first | (with_reducible refine ev_pos ?_ ?_; focus (first | omega | assumption | (simp; done) | (simp; omega))) | (with_reducible refine ev_neg ?_ ?_; focus (first | omega | assumption | (simp; done) | (simp; omega)))))
        rw [u64 ha.1 (by omega), u64 hb.1 (by omega), u64 (n := c + rd A (done.length : Int)) (by omega) (by omega), u64 (by omega) (by omega)]
        exact key _ (by rw [hr, hr]; omega)
      · (repeat (first | (with_reducible refine ev_pos ?_ ?_; focus (first | omega | assumption | (simp; done) | (simp; omega))) | (with_reducible refine ev_neg ?_ ?_; focus (first | omega | assumption | (simp; done) | (simp; omega)))))
        refine ev_step ?_
        simp only [cutplaneref01_Add.j3, w64s (n := done.length) (by omega)]
        (repeat (first | (with_reducible refine ev_pos ?_ ?_; focus (first | omega | assumption | (simp; done) | (simp; omega))) | (with_reducible refine ev_neg ?_ ?_; focus (first | omega | assumption | (simp; done) | (simp; omega)))))
        rw [u64 ha.1 (by omega), u64 (by omega) (by omega)]
        refine key _ ?_
        have : Bl.getD done.length 0 = 0 := by rw [List.getD_eq_getElem?_getD, List.getElem?_eq_none (by omega)]; rfl
        rw [hr, this]; omega
    · (repeat (first | (with_reducible refine ev_pos ?_ ?_; focus (first | omega | assumption | (simp; done) | (simp; omega))) | (with_reducible refine ev_neg ?_ ?_; focus (first | omega | assumption | (simp; done) | (simp; omega)))))
      have c2 : done.length < Bl.length := by omega
      refine ev_step ?_
      simp only [cutplaneref01_Add.j2]
      (repeat (first | (with_reducible refine ev_pos ?_ ?_; focus (first | omega | assumption | (simp; done) | (simp; omega))) | (with_reducible refine ev_neg ?_ ?_; focus (first | omega | assumption | (simp; done) | (simp; omega)))))
      refine ev_step ?_
      simp only [cutplaneref01_Add.j3, w64s (n := done.length) (by omega)]
      (repeat (first | (with_reducible refine ev_pos ?_ ?_; focus (first | omega | assumption | (simp; done) | (simp; omega))) | (with_reducible refine ev_neg ?_ ?_; focus (first | omega | assumption | (simp; done) | (simp; omega)))))
      rw [u64 hb.1 (by omega), u64 (by omega) (by omega)]
      refine key _ ?_
      have : A.getD done.length 0 = 0 := by rw [List.getD_eq_getElem?_getD, List.getElem?_eq_none (by omega)]; rfl
      rw [hr, this]; omega
theorem ref_Add_ev {a b : List Int} (ha : Dg a) (hb : Dg b) (la : a.length < 1000000000) (lb : b.length < 1000000000) : Ev (fun k => cutplaneref01_Add.f k a b) (D (V a + V b)) := by
  unfold cutplaneref01_Add.f
  have := radd_l0 a b ha hb la lb (max a.length b.length) [] 0 (by simp) (by omega) Dg.nil (by simp)
  simpa using this
theorem rsub_l0 (A Bl : List Int) (hA : Dg A) (hB : Dg Bl) (hl : A.length < 1000000000) : ∀ (d : Nat) (done : List Int) (c : Int), done.length + d = A.length → 0 ≤ c ∧ c ≤ 1 → Dg done →
    Ev (fun k => cutplaneref01_Sub.l0 k A Bl done c done.length) (D (V (done ++ subRec (A.drop done.length) (Bl.drop done.length) c)))
  | 0, done, c, hd, hc, hg => by
    refine ev_step ?_
    simp only [cutplaneref01_Sub.l0]
    (repeat (first | (with_reducible refine ev_pos ?_ ?_; focus (first | omega | assumption | (simp; done) | (simp; omega))) | (with_reducible refine ev_neg ?_ ?_; focus (first | omega | assumption | (simp; done) | (simp; omega)))))
    rw [List.drop_eq_nil_of_le (show A.length ≤ done.length by omega)]
    simp only [subRec, List.append_nil]
    refine Ev.bind (ref_Trim_ev hg (by omega)) ?_
    exact Ev.now _
  | d + 1, done, c, hd, hc, hg => by
    have ha := hA.rd (done.length : Int)
    have hb := hB.rd (done.length : Int)
    have hc1 : done.length < A.length := by omega
    have hx : A.drop done.length = A.getD done.length 0 :: A.drop (done.length + 1) := by
      rw [List.drop_eq_getElem_cons hc1]; simp [hc1]
    have key : ∀ (s z : Int), z = Bl.getD done.length 0 → s % 4294967296 = (A.getD done.length 0 - z - c) % 4294967296 → ∀ c', c' = (if A.getD done.length 0 < z + c then 1 else 0) → Ev (fun k => cutplaneref01_Sub.l0 k A Bl (done ++ [s % 4294967296]) c' ((done.length + 1 : Nat) : Int)) (D (V (done ++ subRec (A.drop done.length) (Bl.drop done.length) c))) := by
      rintro s z rfl hs c' rfl
      have := rsub_l0 A Bl hA hB hl d (done ++ [s % 4294967296]) (if A.getD done.length 0 < Bl.getD done.length 0 + c then 1 else 0) (by simp; omega) (by split <;> omega) (hg.app (Dg.cons (by omega) (by omega) Dg.nil))
      rw [List.length_append, List.length_singleton] at this
      refine ev_eq this ?_
      rw [hx, subRec, drop_headD, List.tail_drop, hs]; simp
    have hr : ∀ l : List Int, rd l (done.length : Int) = l.getD done.length 0 := fun l => rdn l _
    refine ev_step ?_
    simp only [cutplaneref01_Sub.l0, w64s (n := done.length) (by omega)]
    (repeat (first | (with_reducible refine ev_pos ?_ ?_; focus (first | omega | assumption | (simp; done) | (simp; omega))) | (with_reducible refine ev_neg ?_ ?_; focus (first | omega | assumption | (simp; done) | (simp; omega)))))
    rw [hr] at ha hb
    by_cases c2 : done.length < Bl.length
    · (repeat (first | (with_reducible refine ev_pos ?_ ?_; focus (first | omega | assumption | (simp; done) | (simp; omega))) | (with_reducible refine ev_neg ?_ ?_; focus (first | omega | assumption | (simp; done) | (simp; omega)))))
      refine ev_step ?_
      simp only [cutplaneref01_Sub.j1]
      (repeat (first | (with_reducible refine ev_pos ?_ ?_; focus (first | omega | assumption | (simp; done) | (simp; omega))) | (with_reducible refine ev_neg ?_ ?_; focus (first | omega | assumption | (simp; done) | (simp; omega)))))
      rw [hr, hr, u64 ha.1 (by omega), u64 hb.1 (by omega), u64 (n := c + Bl.getD done.length 0) (by omega) (by omega)]
      by_cases c3 : A.getD done.length 0 < c + Bl.getD done.length 0
      · (repeat (first | (with_reducible refine ev_pos ?_ ?_; focus (first | omega | assumption | (simp; done) | (simp; omega))) | (with_reducible refine ev_neg ?_ ?_; focus (first | omega | assumption | (simp; done) | (simp; omega)))))
        rw [u64 (n := A.getD done.length 0 + 4294967296) (by omega) (by omega)]
        refine ev_step ?_
        simp only [cutplaneref01_Sub.j2, w64s (n := done.length) (by omega)]
        (repeat (first | (with_reducible refine ev_pos ?_ ?_; focus (first | omega | assumption | (simp; done) | (simp; omega))) | (with_reducible refine ev_neg ?_ ?_; focus (first | omega | assumption | (simp; done) | (simp; omega)))))
        rw [u64 (by omega) (by omega)]
        exact key _ (Bl.getD done.length 0) rfl (by omega) 1 (by rw [if_pos (by omega)])
      · (repeat (first | (with_reducible refine ev_pos ?_ ?_; focus (first | omega | assumption | (simp; done) | (simp; omega))) | (with_reducible refine ev_neg ?_ ?_; focus (first | omega | assumption | (simp; done) | (simp; omega)))))
        refine ev_step ?_
        simp only [cutplaneref01_Sub.j2, w64s (n := done.length) (by omega)]
        (repeat (first | (with_reducible refine ev_pos ?_ ?_; focus (first | omega | assumption | (simp; done) | (simp; omega))) | (with_reducible refine ev_neg ?_ ?_; focus (first | omega | assumption | (simp; done) | (simp; omega)))))
        rw [u64 (by omega) (by omega)]
        exact key _ (Bl.getD done.length 0) rfl (by omega) 0 (by rw [if_neg (by omega)])
    · (repeat (first | (with_reducible refine ev_pos ?_ ?_; focus (first | omega | assumption | (simp; done) | (simp; omega))) | (with_reducible refine ev_neg ?_ ?_; focus (first | omega | assumption | (simp; done) | (simp; omega)))))
      have hz : Bl.getD done.length 0 = 0 := by rw [List.getD_eq_getElem?_getD, List.getElem?_eq_none (by omega)]; rfl
      refine ev_step ?_
      simp only [cutplaneref01_Sub.j1]
      (repeat (first | (with_reducible refine ev_pos ?_ ?_; focus (first | omega | assumption | (simp; done) | (simp; omega))) | (with_reducible refine ev_neg ?_ ?_; focus (first | omega | assumption | (simp; done) | (simp; omega)))))
      rw [hr, u64 ha.1 (by omega)]
      by_cases c3 : A.getD done.length 0 < c
      · (repeat (first | (with_reducible refine ev_pos ?_ ?_; focus (first | omega | assumption | (simp; done) | (simp; omega))) | (with_reducible refine ev_neg ?_ ?_; focus (first | omega | assumption | (simp; done) | (simp; omega)))))
        rw [u64 (n := A.getD done.length 0 + 4294967296) (by omega) (by omega)]
        refine ev_step ?_
        simp only [cutplaneref01_Sub.j2, w64s (n := done.length) (by omega)]
        (repeat (first | (with_reducible refine ev_pos ?_ ?_; focus (first | omega | assumption | (simp; done) | (simp; omega))) | (with_reducible refine ev_neg ?_ ?_; focus (first | omega | assumption | (simp; done) | (simp; omega)))))
        rw [u64 (by omega) (by omega)]
        exact key _ (Bl.getD done.length 0) rfl (by omega) 1 (by rw [if_pos (by omega)])
      · (repeat (first | (with_reducible refine ev_pos ?_ ?_; focus (first | omega | assumption | (simp; done) | (simp; omega))) | (with_reducible refine ev_neg ?_ ?_; focus (first | omega | assumption | (simp; done) | (simp; omega)))))
        refine ev_step ?_
        simp only [cutplaneref01_Sub.j2, w64s (n := done.length) (by omega)]
        (repeat (first | (with_reducible refine ev_pos ?_ ?_; focus (first | omega | assumption | (simp; done) | (simp; omega))) | (with_reducible refine ev_neg ?_ ?_; focus (first | omega | assumption | (simp; done) | (simp; omega)))))
        rw [u64 (by omega) (by omega)]
        exact key _ (Bl.getD done.length 0) rfl (by omega) 0 (by rw [if_neg (by omega)])
theorem ref_Sub_ev {a b : List Int} (ha : Nm a) (hb : Nm b) (la : a.length < 1000000000) (h : V b ≤ V a) : Ev (fun k => cutplaneref01_Sub.f k a b) (D (V a - V b)) := by
  unfold cutplaneref01_Sub.f
  have hl : b.length ≤ a.length := by rw [← ha.len, ← hb.len]; exact D_len_mono h
  have := rsub_l0 a b ha.dg hb.dg la a.length [] 0 (by simp) (by omega) Dg.nil
  refine ev_eq this ?_
  have h2 := subRec_V ha.dg hb.dg (c := 0) (by omega) hl (by simpa using h)
  simp [h2.1]
end Go.Proofs.YtbcjdlljmhfhdaaGreatDoor.Eng.K

/- The first layer's plain functions: products. -/
set_option linter.unusedVariables false
set_option linter.unusedSimpArgs false
namespace Go.Proofs.YtbcjdlljmhfhdaaGreatDoor.Eng.K
open Go.RowKit

theorem D_len_pos {l : List Int} (h : Nm l) (h0 : l ≠ []) : 4294967296 ^ (l.length - 1) ≤ V l := by
  have h1 : V l ≠ 0 := fun e => h0 ((V_eq_zero h).1 e)
  have := D_len_ge h1
  rwa [h.len] at this
def conv : List Int → List Int → Nat → Nat
  | [], _, _ => 0
  | x :: _, b, 0 => x.toNat * (b.getD 0 0).toNat
  | x :: a, b, k + 1 => x.toNat * (b.getD (k + 1) 0).toNat + conv a b k
end Go.Proofs.YtbcjdlljmhfhdaaGreatDoor.Eng.K

/- The first layer's statements: what they share. -/
set_option linter.unusedVariables false
set_option linter.unusedSimpArgs false
namespace Go.Proofs.YtbcjdlljmhfhdaaGreatDoor.Eng.K
open Go.RowKit

/-! ### a number's value as a word -/
theorem or_u64_disjoint {x y : Int} (h0 : 0 ≤ x ∧ x < 4294967296) (h1 : 0 ≤ y ∧ y < 4294967296) : Go.bits .or .u64 x (y * 4294967296) = x + y * 4294967296 := by
  obtain ⟨X, rfl⟩ := Int.eq_ofNat_of_zero_le h0.1
  obtain ⟨Y, rfl⟩ := Int.eq_ofNat_of_zero_le h1.1
  have e : (Y : Int) * 4294967296 = ((2 ^ 32 * Y : Nat) : Int) := by omega
  rw [e, u64_or_nat _ _ (by omega) (by omega), Nat.or_comm, ← Nat.two_pow_add_eq_or_of_lt (by omega)]
  omega
theorem shl_zero {d : Int} (h : 0 ≤ d ∧ d < 4294967296) : shl .u64 d 0 = d := by
  unfold shl; simp; exact u64 h.1 (by omega)
theorem shl_32 {d : Int} (h : 0 ≤ d ∧ d < 4294967296) : shl .u64 d 32 = d * 4294967296 := by
  unfold shl
  have e : min (32 : Int).toNat IntKind.u64.bits = 32 := by decide
  rw [e, show (2 : Int) ^ 32 = 4294967296 from rfl, u64 (by omega) (by omega)]
def numB (l : List Int) : Bool := may l && decide (l.length ≤ 2)
theorem nat_Num_ev {l : List Int} (h : Dg l) (hb : l.length < 4611686018427387904) : Ev (fun k => nat_Num.f k l) (if numB l then ((V l : Nat) : Int) else 0, numB l) := by
  unfold nat_Num.f
  refine ev_bind (nat_May_eq h hb) ?_
  have no : numB l = false → Ev (fun _ : Nat => some ((0 : Int), false)) (if numB l then ((V l : Nat) : Int) else 0, numB l) := by
    intro e
    rw [e]
    exact Ev.now _
  by_cases c1 : may l = true
  · rw [c1]
    (repeat (first | (with_reducible refine ev_pos ?_ ?_; focus (first | omega | assumption | (simp; done) | (simp; omega))) | (with_reducible refine ev_neg ?_ ?_; focus (first | omega | assumption | (simp; done) | (simp; omega)))))
    by_cases c2 : l.length > 2
    · (repeat (first | (with_reducible refine ev_pos ?_ ?_; focus (first | omega | assumption | (simp; done) | (simp; omega))) | (with_reducible refine ev_neg ?_ ?_; focus (first | omega | assumption | (simp; done) | (simp; omega)))))
      exact no (by unfold numB; rw [decide_eq_false (by omega)]; simp)
    · (repeat (first | (with_reducible refine ev_pos ?_ ?_; focus (first | omega | assumption | (simp; done) | (simp; omega))) | (with_reducible refine ev_neg ?_ ?_; focus (first | omega | assumption | (simp; done) | (simp; omega)))))
      have e : numB l = true := by unfold numB; rw [c1, decide_eq_true (by omega)]; rfl
      rw [e]
      have w0 : wrap64 (32 * 0) = 0 := by unfold wrap64; omega
      have w1 : wrap64 (0 + 1) = 1 := by unfold wrap64; omega
      have w2 : wrap64 (32 * 1) = 32 := by unfold wrap64; omega
      have w3 : wrap64 (1 + 1) = 2 := by unfold wrap64; omega
      match l, h with
      | [], h =>
        refine ev_step ?_
        simp only [nat_Num.l0]
        (repeat (first | (with_reducible refine ev_pos ?_ ?_; focus (first | omega | assumption | (simp; done) | (simp; omega))) | (with_reducible refine ev_neg ?_ ?_; focus (first | omega | assumption | (simp; done) | (simp; omega))))); exact Ev.now _
      | [x], h =>
        have hx := h.head
        refine ev_step ?_
        simp only [nat_Num.l0, w0, w1]
        (repeat (first | (with_reducible refine ev_pos ?_ ?_; focus (first | omega | assumption | (simp; done) | (simp; omega))) | (with_reducible refine ev_neg ?_ ?_; focus (first | omega | assumption | (simp; done) | (simp; omega)))))
        have r0 : rd [x] 0 = x := rfl
        rw [r0, u64 hx.1 (by omega), shl_zero hx, u64_or _ _ (by omega) (by omega) (by omega) (by omega)]
        refine ev_step ?_
        simp only [nat_Num.l0]
        (repeat (first | (with_reducible refine ev_pos ?_ ?_; focus (first | omega | assumption | (simp; done) | (simp; omega))) | (with_reducible refine ev_neg ?_ ?_; focus (first | omega | assumption | (simp; done) | (simp; omega)))))
        refine ev_eq (Ev.now _) ?_
        simp
      | [x, y], h =>
        have hx := h.head
        have hy := h.tail.head
        refine ev_step ?_
        simp only [nat_Num.l0, w0, w1]
        (repeat (first | (with_reducible refine ev_pos ?_ ?_; focus (first | omega | assumption | (simp; done) | (simp; omega))) | (with_reducible refine ev_neg ?_ ?_; focus (first | omega | assumption | (simp; done) | (simp; omega)))))
        have r0 : rd [x, y] 0 = x := rfl
        have r1 : rd [x, y] 1 = y := rfl
        rw [r0, u64 hx.1 (by omega), shl_zero hx, u64_or _ _ (by omega) (by omega) (by omega) (by omega)]
        have z : (((0 : Int).toNat ||| x.toNat : Nat) : Int) = x := by simp; omega
        rw [z]
        refine ev_step ?_
        simp only [nat_Num.l0, w2, w3]
        (repeat (first | (with_reducible refine ev_pos ?_ ?_; focus (first | omega | assumption | (simp; done) | (simp; omega))) | (with_reducible refine ev_neg ?_ ?_; focus (first | omega | assumption | (simp; done) | (simp; omega)))))
        rw [r1, u64 (n := y) hy.1 (by omega), shl_32 hy, or_u64_disjoint hx hy]
        refine ev_step ?_
        simp only [nat_Num.l0]
        (repeat (first | (with_reducible refine ev_pos ?_ ?_; focus (first | omega | assumption | (simp; done) | (simp; omega))) | (with_reducible refine ev_neg ?_ ?_; focus (first | omega | assumption | (simp; done) | (simp; omega)))))
        refine ev_eq (Ev.now _) ?_
        simp; omega
      | x :: y :: z :: l, h => simp at c2
  · have c1 : may l = false := by simpa using c1
    rw [c1]
    (repeat (first | (with_reducible refine ev_pos ?_ ?_; focus (first | omega | assumption | (simp; done) | (simp; omega))) | (with_reducible refine ev_neg ?_ ?_; focus (first | omega | assumption | (simp; done) | (simp; omega))))); exact no (by unfold numB; simp [c1])
end Go.Proofs.YtbcjdlljmhfhdaaGreatDoor.Eng.K

/- The first layer's plain functions: the length of a number in bits. -/
set_option linter.unusedVariables false
set_option linter.unusedSimpArgs false
namespace Go.Proofs.YtbcjdlljmhfhdaaGreatDoor.Eng.K
open Go.RowKit

/-- how many bits -/
def bl (n : Nat) : Nat := if n = 0 then 0 else n.log2 + 1
theorem bl_zero : bl 0 = 0 := rfl
theorem bl_le {n : Nat} (h : n ≠ 0) : 2 ^ (bl n - 1) ≤ n := by
  unfold bl; rw [if_neg h]; exact Nat.log2_self_le h
theorem lt_bl (n : Nat) : n < 2 ^ bl n := by
  unfold bl
  split
  · subst n; simp
  · exact Nat.lt_log2_self
theorem bl_pos {n : Nat} (h : n ≠ 0) : 0 < bl n := by unfold bl; rw [if_neg h]; omega
theorem bl_le_of_lt {n k : Nat} (h : n < 2 ^ k) : bl n ≤ k := by
  by_cases e : n = 0
  · subst e; simp [bl_zero]
  · have h1 := bl_le e
    have h2 := bl_pos e
    have : bl n - 1 < k := (Nat.pow_lt_pow_iff_right (a := 2) (by omega)).1 (Nat.lt_of_le_of_lt h1 h)
    omega
theorem bl_unique {n k : Nat} (h1 : 2 ^ k ≤ n) (h2 : n < 2 ^ (k + 1)) : bl n = k + 1 := by
  have := bl_le_of_lt h2
  have h3 : 2 ^ k < 2 ^ bl n := Nat.lt_of_le_of_lt h1 (lt_bl n)
  have := (Nat.pow_lt_pow_iff_right (a := 2) (by omega)).1 h3
  omega
theorem bl_shift {n k : Nat} (h : 2 ^ k ≤ n) : bl n = k + bl (n / 2 ^ k) := by
  have hp : 0 < 2 ^ k := Nat.pow_pos (by omega)
  have h0 : n / 2 ^ k ≠ 0 := by
    have := (Nat.le_div_iff_mul_le hp (x := 1) (y := n)).2 (by omega)
    omega
  have h1 := bl_le h0
  have h2 := lt_bl (n / 2 ^ k)
  have h3 := bl_pos h0
  have e : k + bl (n / 2 ^ k) = (k + (bl (n / 2 ^ k) - 1)) + 1 := by omega
  rw [e]
  apply bl_unique
  · rw [Nat.pow_add]
    have := (Nat.le_div_iff_mul_le hp).1 h1
    rw [Nat.mul_comm]; exact this
  · have := (Nat.div_lt_iff_lt_mul hp).1 h2
    rw [show k + (bl (n / 2 ^ k) - 1) + 1 = bl (n / 2 ^ k) + k by omega, Nat.pow_add]
    exact this
theorem bl_step {n : Nat} (h : n ≠ 0) : bl n = bl (n / 2) + 1 := by
  by_cases h1 : n = 1
  · subst h1; rfl
  · have := bl_shift (n := n) (k := 1) (by omega)
    simp at this; omega
theorem bl_mono {a b : Nat} (h : a ≤ b) : bl a ≤ bl b := bl_le_of_lt (Nat.lt_of_le_of_lt h (lt_bl b))

def tab8 : ByteArray := ⟨#[0, 1, 2, 2, 3, 3, 3, 3, 4, 4, 4, 4, 4, 4, 4, 4, 5, 5, 5, 5, 5, 5, 5, 5, 5, 5, 5, 5, 5, 5, 5, 5, 6, 6, 6, 6, 6, 6, 6, 6, 6, 6, 6, 6, 6, 6, 6, 6, 6, 6, 6, 6, 6, 6, 6, 6, 6, 6, 6, 6, 6, 6, 6, 6, 7, 7, 7, 7, 7, 7, 7, 7, 7, 7, 7, 7, 7, 7, 7, 7, 7, 7, 7, 7, 7, 7, 7, 7, 7, 7, 7, 7, 7, 7, 7, 7, 7, 7, 7, 7, 7, 7, 7, 7, 7, 7, 7, 7, 7, 7, 7, 7, 7, 7, 7, 7, 7, 7, 7, 7, 7, 7, 7, 7, 7, 7, 7, 7, 8, 8, 8, 8, 8, 8, 8, 8, 8, 8, 8, 8, 8, 8, 8, 8, 8, 8, 8, 8, 8, 8, 8, 8, 8, 8, 8, 8, 8, 8, 8, 8, 8, 8, 8, 8, 8, 8, 8, 8, 8, 8, 8, 8, 8, 8, 8, 8, 8, 8, 8, 8, 8, 8, 8, 8, 8, 8, 8, 8, 8, 8, 8, 8, 8, 8, 8, 8, 8, 8, 8, 8, 8, 8, 8, 8, 8, 8, 8, 8, 8, 8, 8, 8, 8, 8, 8, 8, 8, 8, 8, 8, 8, 8, 8, 8, 8, 8, 8, 8, 8, 8, 8, 8, 8, 8, 8, 8, 8, 8, 8, 8, 8, 8, 8, 8, 8, 8, 8, 8, 8, 8, 8, 8, 8, 8, 8, 8]⟩
theorem tab8_eq : (List.range 256).all (fun i => bt tab8 (i : Int) == (bl i : Int)) = true := by decide +kernel
theorem bt8 {t : ByteArray} {n : Nat} (h : n < 256) (ht : t = tab8) : bt t (n : Int) = (bl n : Int) := by
  subst ht
  have := List.all_eq_true.1 tab8_eq n (List.mem_range.2 h)
  exact eq_of_beq this
theorem bl_small {n : Nat} (h : n < 256) : bl n ≤ 8 := bl_le_of_lt h
theorem len8_size : tx_c182c703.size = 256 := by decide +kernel
theorem len32_j1 {n : Nat} (h : n < 256) {m : Int} (hm : 0 ≤ m ∧ m ≤ 64) : Ev (fun k => bits_Len32.j1 k (n : Int) m) (m + (bl n : Nat)) := by
  refine ev_step ?_
  simp only [bits_Len32.j1]
  have e : (n : Int) % 256 = n := by omega
  have l := bl_small h
  rw [e, len8_size]
  (repeat (first | (with_reducible refine ev_pos ?_ ?_; focus (first | omega | assumption | (simp; done) | (simp; omega))) | (with_reducible refine ev_neg ?_ ?_; focus (first | omega | assumption | (simp; done) | (simp; omega)))))
  rw [bt8 h (by rfl), w64n (n := ((bl n : Nat) : Int)) (by omega) (by omega), w64n (by omega) (by omega)]
  exact Ev.now _
theorem len32_j0 {n : Nat} (h : n < 65536) {m : Int} (hm : 0 ≤ m ∧ m ≤ 32) : Ev (fun k => bits_Len32.j0 k (n : Int) m) (m + (bl n : Nat)) := by
  refine ev_step ?_
  simp only [bits_Len32.j0]
  by_cases c : n ≥ 256
  · (repeat (first | (with_reducible refine ev_pos ?_ ?_; focus (first | omega | assumption | (simp; done) | (simp; omega))) | (with_reducible refine ev_neg ?_ ?_; focus (first | omega | assumption | (simp; done) | (simp; omega)))))
    have e2 : bl n = 8 + bl (n / 256) := bl_shift (k := 8) c
    have := len32_j1 (n := n / 256) (by omega) (m := m + 8) (by omega)
    rw [w64n (by omega) (by omega), show (n : Int) / 256 = ((n / 256 : Nat) : Int) by omega]
    exact ev_eq this (by rw [e2]; omega)
  · (repeat (first | (with_reducible refine ev_pos ?_ ?_; focus (first | omega | assumption | (simp; done) | (simp; omega))) | (with_reducible refine ev_neg ?_ ?_; focus (first | omega | assumption | (simp; done) | (simp; omega)))))
    exact len32_j1 (by omega) (by omega)
theorem len32_ev {x : Int} (h : 0 ≤ x ∧ x < 4294967296) : Ev (fun k => bits_Len32.f k x) ((bl x.toNat : Nat) : Int) := by
  obtain ⟨n, rfl⟩ := Int.eq_ofNat_of_zero_le h.1
  unfold bits_Len32.f
  rw [Int.toNat_natCast]
  by_cases c : n ≥ 65536
  · (repeat (first | (with_reducible refine ev_pos ?_ ?_; focus (first | omega | assumption | (simp; done) | (simp; omega))) | (with_reducible refine ev_neg ?_ ?_; focus (first | omega | assumption | (simp; done) | (simp; omega)))))
    have e1 : bl n = 16 + bl (n / 65536) := bl_shift (k := 16) c
    rw [show (n : Int) / 65536 = ((n / 65536 : Nat) : Int) by omega]
    exact ev_eq (len32_j0 (by omega) (by omega)) (by rw [e1]; omega)
  · (repeat (first | (with_reducible refine ev_pos ?_ ?_; focus (first | omega | assumption | (simp; done) | (simp; omega))) | (with_reducible refine ev_neg ?_ ?_; focus (first | omega | assumption | (simp; done) | (simp; omega)))))
    exact ev_eq (len32_j0 (by omega) (by omega)) (by omega)
theorem len64_j2 {n : Nat} (h : n < 256) {m : Int} (hm : 0 ≤ m ∧ m ≤ 128) : Ev (fun k => bits_Len64.j2 k (n : Int) m) (m + (bl n : Nat)) := by
  refine ev_step ?_
  simp only [bits_Len64.j2]
  have e : (n : Int) % 256 = n := by omega
  have l := bl_small h
  rw [e, len8_size]
  (repeat (first | (with_reducible refine ev_pos ?_ ?_; focus (first | omega | assumption | (simp; done) | (simp; omega))) | (with_reducible refine ev_neg ?_ ?_; focus (first | omega | assumption | (simp; done) | (simp; omega)))))
  rw [bt8 h (by rfl), w64n (n := ((bl n : Nat) : Int)) (by omega) (by omega), w64n (by omega) (by omega)]
  exact Ev.now _
theorem len64_j1 {n : Nat} (h : n < 65536) {m : Int} (hm : 0 ≤ m ∧ m ≤ 100) : Ev (fun k => bits_Len64.j1 k (n : Int) m) (m + (bl n : Nat)) := by
  refine ev_step ?_
  simp only [bits_Len64.j1]
  by_cases c : n ≥ 256
  · (repeat (first | (with_reducible refine ev_pos ?_ ?_; focus (first | omega | assumption | (simp; done) | (simp; omega))) | (with_reducible refine ev_neg ?_ ?_; focus (first | omega | assumption | (simp; done) | (simp; omega)))))
    have e2 : bl n = 8 + bl (n / 256) := bl_shift (k := 8) c
    have := len64_j2 (n := n / 256) (by omega) (m := m + 8) (by omega)
    rw [w64n (by omega) (by omega), show (n : Int) / 256 = ((n / 256 : Nat) : Int) by omega]
    exact ev_eq this (by rw [e2]; omega)
  · (repeat (first | (with_reducible refine ev_pos ?_ ?_; focus (first | omega | assumption | (simp; done) | (simp; omega))) | (with_reducible refine ev_neg ?_ ?_; focus (first | omega | assumption | (simp; done) | (simp; omega)))))
    exact len64_j2 (by omega) (by omega)
theorem len64_j0 {n : Nat} (h : n < 4294967296) {m : Int} (hm : 0 ≤ m ∧ m ≤ 64) : Ev (fun k => bits_Len64.j0 k n m) (m + (bl n : Nat)) := by
  refine ev_step ?_
  simp only [bits_Len64.j0]
  by_cases c : n ≥ 65536
  · (repeat (first | (with_reducible refine ev_pos ?_ ?_; focus (first | omega | assumption | (simp; done) | (simp; omega))) | (with_reducible refine ev_neg ?_ ?_; focus (first | omega | assumption | (simp; done) | (simp; omega)))))
    have e2 : bl n = 16 + bl (n / 65536) := bl_shift (k := 16) c
    have := len64_j1 (n := n / 65536) (by omega) (m := m + 16) (by omega)
    rw [w64n (by omega) (by omega), show (n : Int) / 65536 = ((n / 65536 : Nat) : Int) by omega]
    exact ev_eq this (by rw [e2]; omega)
  · (repeat (first | (with_reducible refine ev_pos ?_ ?_; focus (first | omega | assumption | (simp; done) | (simp; omega))) | (with_reducible refine ev_neg ?_ ?_; focus (first | omega | assumption | (simp; done) | (simp; omega)))))
    exact len64_j1 (by omega) (by omega)
theorem len64_ev {x : Int} (h : 0 ≤ x ∧ x < 18446744073709551616) : Ev (fun k => bits_Len64.f k x) ((bl x.toNat : Nat) : Int) := by
  obtain ⟨n, rfl⟩ := Int.eq_ofNat_of_zero_le h.1
  rw [Int.toNat_natCast]
  unfold bits_Len64.f
  by_cases c : n ≥ 4294967296
  · (repeat (first | (with_reducible refine ev_pos ?_ ?_; focus (first | omega | assumption | (simp; done) | (simp; omega))) | (with_reducible refine ev_neg ?_ ?_; focus (first | omega | assumption | (simp; done) | (simp; omega)))))
    have e : bl n = 32 + bl (n / 4294967296) := bl_shift (k := 32) c
    have := len64_j0 (n := n / 4294967296) (by omega) (m := 32) (by omega)
    refine ev_eq this ?_
    omega
  · (repeat (first | (with_reducible refine ev_pos ?_ ?_; focus (first | omega | assumption | (simp; done) | (simp; omega))) | (with_reducible refine ev_neg ?_ ?_; focus (first | omega | assumption | (simp; done) | (simp; omega)))))
    have := len64_j0 (n := n) (by omega) (m := 0) (by omega)
    exact ev_eq this (by omega)

/-! ### the references' length -/
theorem rlen_l0 : ∀ (n : Nat) (m : Int), 0 ≤ m ∧ m + (bl n : Nat) < 4611686018427387904 → n < 4294967296 → Ev (fun k => cutplaneref01_Len.l0 k m n) (m + (bl n : Nat)) := by
  intro n
  induction n using Nat.strongRecOn with
  | _ n ih =>
    intro m hm hn
    refine ev_step ?_
    simp only [cutplaneref01_Len.l0]
    by_cases c : n = 0
    · subst c
      (repeat (first | (with_reducible refine ev_pos ?_ ?_; focus (first | omega | assumption | (simp; done) | (simp; omega))) | (with_reducible refine ev_neg ?_ ?_; focus (first | omega | assumption | (simp; done) | (simp; omega)))))
      exact ev_eq (Ev.now _) (by simp [bl_zero])
    · (repeat (first | (with_reducible refine ev_pos ?_ ?_; focus (first | omega | assumption | (simp; done) | (simp; omega))) | (with_reducible refine ev_neg ?_ ?_; focus (first | omega | assumption | (simp; done) | (simp; omega)))))
      have e : (n : Int) / 2 = ((n / 2 : Nat) : Int) := by omega
      have hb := bl_step c
      rw [e, w64n (by omega) (by omega)]
      refine ev_eq (ih (n / 2) (by omega) (m + 1) (by omega) (by omega)) ?_
      omega
/-- the bits of a list: its highest digit's, and 32 for each other one -/
theorem bl_V {l : List Int} (h : Nm l) (h0 : l ≠ []) : bl (V l) = 32 * (l.length - 1) + bl (l.getD (l.length - 1) 0).toNat := by
  rcases List.eq_nil_or_concat l with rfl | ⟨a, d, rfl⟩
  · exact absurd rfl h0
  rw [List.concat_eq_append] at h ⊢
  have hd := h.dg d (by simp)
  have hn := Nm_last h
  have e : (a ++ [d]).getD ((a ++ [d]).length - 1) 0 = d := by simp
  rw [e]
  have hl : (a ++ [d]).length - 1 = a.length := by simp
  rw [hl, V_append]
  simp only [V_cons, V_nil, Nat.mul_zero, Nat.add_zero]
  have hv := V_lt h.dg.left
  have hp : (4294967296 : Nat) ^ a.length = 2 ^ (32 * a.length) := by rw [Nat.pow_mul]
  rw [hp] at hv ⊢
  have hpos : 0 < 2 ^ (32 * a.length) := Nat.pow_pos (by omega)
  have hd1 : 2 ^ (32 * a.length) * 1 ≤ 2 ^ (32 * a.length) * d.toNat := Nat.mul_le_mul_left _ (by omega)
  rw [bl_shift (n := V a + 2 ^ (32 * a.length) * d.toNat) (k := 32 * a.length) (by omega)]
  rw [Nat.add_mul_div_left _ _ hpos, Nat.div_eq_of_lt hv, Nat.zero_add]
theorem ref_Len_ev {l : List Int} (h : Nm l) (hb : l.length < 1000000000) : Ev (fun k => cutplaneref01_Len.f k l) ((bl (V l) : Nat) : Int) := by
  unfold cutplaneref01_Len.f
  by_cases c : l.length = 0
  · have : l = [] := List.eq_nil_of_length_eq_zero c
    subst this
    (repeat (first | (with_reducible refine ev_pos ?_ ?_; focus (first | omega | assumption | (simp; done) | (simp; omega))) | (with_reducible refine ev_neg ?_ ?_; focus (first | omega | assumption | (simp; done) | (simp; omega))))); exact Ev.now _
  · (repeat (first | (with_reducible refine ev_pos ?_ ?_; focus (first | omega | assumption | (simp; done) | (simp; omega))) | (with_reducible refine ev_neg ?_ ?_; focus (first | omega | assumption | (simp; done) | (simp; omega)))))
    have e : wrap64 ((l.length : Int) - 1) = ((l.length - 1 : Nat) : Int) := by unfold wrap64; omega
    rw [e]
    clear e
    (repeat (first | (with_reducible refine ev_pos ?_ ?_; focus (first | omega | assumption | (simp; done) | (simp; omega))) | (with_reducible refine ev_neg ?_ ?_; focus (first | omega | assumption | (simp; done) | (simp; omega)))))
    have hd := h.dg.getD (l.length - 1)
    rw [rdn, w64n (by omega) (by omega)]
    generalize hx : l.getD (l.length - 1) 0 = x at hd
    obtain ⟨n, rfl⟩ := Int.eq_ofNat_of_zero_le hd.1
    have hbn : bl n ≤ 32 := bl_le_of_lt (by omega)
    refine ev_eq (rlen_l0 n _ (by omega) (by omega)) ?_
    have hne : l ≠ [] := fun e => c (by rw [e]; rfl)
    have hm := Nm_iff h.dg |>.1 h
    rw [bl_V h hne, hx]
    simp
end Go.Proofs.YtbcjdlljmhfhdaaGreatDoor.Eng.K

/- The first layer's plain functions: times a power of two, bits. -/
set_option linter.unusedVariables false
set_option linter.unusedSimpArgs false
namespace Go.Proofs.YtbcjdlljmhfhdaaGreatDoor.Eng.K
open Go.RowKit

/-! ### one digit -/
theorem pw {s : Nat} (h : s ≤ 32) : 2 ^ s * 2 ^ (32 - s) = 4294967296 := by
  rw [← Nat.pow_add]; have : s + (32 - s) = 32 := by omega
  rw [this]
theorem pw_pos (s : Nat) : 0 < 2 ^ s := Nat.pow_pos (by omega)
theorem shift_nat {X P Q c : Nat} (hP : 0 < P) (hc : c < P) : (X * P + c) / (P * Q) = X / Q ∧ (X * P + c) % (P * Q) = P * (X % Q) + c := by
  have h1 : (X * P + c) / P = X := by rw [Nat.mul_comm, Nat.mul_add_div hP, Nat.div_eq_of_lt hc, Nat.add_zero]
  have h2 : (X * P + c) % P = c := by rw [Nat.mul_comm, Nat.mul_add_mod, Nat.mod_eq_of_lt hc]
  exact ⟨by rw [← Nat.div_div_eq_div_mul, h1], by rw [Nat.mod_mul, h1, h2, Nat.add_comm]⟩
theorem pow_cast (s : Nat) : ((2 : Int) ^ s) = ((2 ^ s : Nat) : Int) := by simp
theorem shl32 (X s : Nat) (hs : s < 32) : shl .u32 (X : Int) (s : Int) = ((X * 2 ^ s % 4294967296 : Nat) : Int) := by
  unfold shl
  rw [Int.toNat_natCast, Nat.min_eq_left (by simp [IntKind.bits]; omega), pow_cast, ← Int.natCast_mul]
  simp [IntKind.wrap, IntKind.bits, IntKind.signed]
theorem shl64 (X s : Nat) (hs : s ≤ 32) (hX : X < 4294967296) : shl .u64 (X : Int) (s : Int) = ((X * 2 ^ s : Nat) : Int) := by
  unfold shl
  rw [Int.toNat_natCast, Nat.min_eq_left (by simp [IntKind.bits]; omega), pow_cast, ← Int.natCast_mul]
  have h1 : 2 ^ s ≤ 2 ^ 32 := Nat.pow_le_pow_right (by omega) hs
  have h2 : X * 2 ^ s ≤ 4294967295 * 2 ^ 32 := Nat.mul_le_mul (by omega) h1
  exact u64 (by omega) (by omega)
theorem shr_n {k : IntKind} (X s : Nat) (hs : s ≤ k.bits) : shr k (X : Int) (s : Int) = ((X / 2 ^ s : Nat) : Int) := by
  unfold shr
  rw [Int.toNat_natCast, Nat.min_eq_left hs, pow_cast, ← Int.natCast_ediv]
theorem wrap_u64n (X : Nat) (hX : X < 4294967296) : IntKind.u64.wrap (X : Int) = (X : Int) := u64 (by omega) (by omega)
theorem w32s {s : Nat} (hs : s ≤ 32) : wrap64 (32 - (s : Int)) = ((32 - s : Nat) : Int) := by unfold wrap64; omega
theorem div_lt_pw {X s : Nat} (hs : s ≤ 32) (hX : X < 4294967296) : X / 2 ^ s < 2 ^ (32 - s) := by
  rw [Nat.div_lt_iff_lt_mul (pw_pos _), Nat.mul_comm, pw hs]; exact hX
/-- up: the digit that stays -/
theorem up_digit (X s c : Nat) (hs : s < 32) (hX : X < 4294967296) (hc : c < 2 ^ s) : Go.bits .or .u32 (shl .u32 (X : Int) (s : Int)) (c : Int) = (((X * 2 ^ s + c) % 4294967296 : Nat) : Int) := by
  have h1 := (shift_nat (X := X) (Q := 2 ^ (32 - s)) (pw_pos s) hc).2
  have h0 := (shift_nat (X := X) (Q := 2 ^ (32 - s)) (c := 0) (pw_pos s) (pw_pos s)).2
  have hle : 2 ^ s ≤ 2 ^ 31 := Nat.pow_le_pow_right (by omega) (by omega)
  rw [pw (by omega)] at h1 h0
  rw [shl32 _ _ hs, u32_or_nat _ _ (by omega) (by omega), h1]
  rw [Nat.add_zero, Nat.add_zero] at h0
  rw [h0, ← Nat.two_pow_add_eq_or_of_lt hc]
theorem up_carry (X s c : Nat) (hs : s < 32) (hX : X < 4294967296) (hc : c < 2 ^ s) : (shr .u64 (IntKind.u64.wrap (X : Int)) (wrap64 (32 - (s : Int)))) % 4294967296 = (((X * 2 ^ s + c) / 4294967296 : Nat) : Int) := by
  have h1 := (shift_nat (X := X) (Q := 2 ^ (32 - s)) (pw_pos s) hc).1
  rw [pw (by omega)] at h1
  rw [wrap_u64n _ hX, w32s (by omega), shr_n _ _ (by simp [IntKind.bits]; omega), h1]
  have := div_lt_pw (s := 32 - s) (by omega) hX
  have h3 : X / 2 ^ (32 - s) ≤ X := Nat.div_le_self _ _
  omega
theorem up_carry_lt (X s c : Nat) (hs : s < 32) (hX : X < 4294967296) (hc : c < 2 ^ s) : (X * 2 ^ s + c) / 4294967296 < 2 ^ s := by
  have h1 := (shift_nat (X := X) (Q := 2 ^ (32 - s)) (pw_pos s) hc).1
  rw [pw (by omega)] at h1
  rw [h1]
  have := div_lt_pw (s := 32 - s) (by omega) hX
  have e : 32 - (32 - s) = s := by omega
  rwa [e] at this
theorem rup_or (X s c : Nat) (hs : s < 32) (hX : X < 4294967296) (hc : c < 2 ^ s) : Go.bits .or .u64 (c : Int) (shl .u64 (IntKind.u64.wrap (X : Int)) (s : Int)) = ((X * 2 ^ s + c : Nat) : Int) := by
  have hle : 2 ^ s ≤ 2 ^ 31 := Nat.pow_le_pow_right (by omega) (by omega)
  have h2 : X * 2 ^ s ≤ 4294967295 * 2 ^ 31 := Nat.mul_le_mul (by omega) hle
  rw [wrap_u64n _ hX, shl64 _ _ (by omega) hX, u64_or_nat _ _ (by omega) (by omega), Nat.or_comm, Nat.mul_comm X, ← Nat.two_pow_add_eq_or_of_lt hc]

/-! ### times 2^n -/
def upRec (P : Nat) : List Int → Nat → List Int
  | [], c => [(c : Int)]
  | d :: l, c => (((d.toNat * P + c) % 4294967296 : Nat) : Int) :: upRec P l ((d.toNat * P + c) / 4294967296)
theorem upRec_V {s : Nat} (hs : s < 32) : ∀ (l : List Int) (c : Nat), Dg l → c < 2 ^ s → V (upRec (2 ^ s) l c) = V l * 2 ^ s + c ∧ Dg (upRec (2 ^ s) l c)
  | [], c, _, hc => by
    have hle : 2 ^ s ≤ 2 ^ 31 := Nat.pow_le_pow_right (by omega) (by omega)
    simp only [upRec, V_cons, V_nil]
    exact ⟨by omega, Dg.cons (by omega) (by omega) Dg.nil⟩
  | d :: l, c, hg, hc => by
    have hd := hg.head
    have hX : d.toNat < 4294967296 := by omega
    have ih := upRec_V hs l _ hg.tail (up_carry_lt d.toNat s c hs hX hc)
    simp only [upRec, V_cons, ih.1]
    refine ⟨?_, Dg.cons (by omega) (by omega) ih.2⟩
    generalize hm : d.toNat * 2 ^ s + c = m
    rw [Nat.add_mul, Nat.mul_assoc]
    generalize V l * 2 ^ s = z
    omega
theorem nn {i : Nat} : 0 ≤ (i : Int) := Int.natCast_nonneg i
theorem up_l0 (A : List Int) (hA : Dg A) (hl : A.length < 1000000000) {s : Nat} (hs : s < 32) : ∀ (a done pa : List Int) (c : Nat), A = pa ++ a → c < 2 ^ s → Dg done → done.length + a.length < 2000000000 →
    Ev (fun k => nat_up.l0 k done s c A A.length pa.length) (D (V (done ++ upRec (2 ^ s) a c)))
  | [], done, pa, c, he, hc, hg, hb => by
    have hlen : A.length = pa.length := by rw [he]; simp
    have hle : 2 ^ s ≤ 2 ^ 31 := Nat.pow_le_pow_right (by omega) (by omega)
    refine ev_step ?_
    simp only [nat_up.l0]
    (repeat (first | (with_reducible refine ev_pos ?_ ?_; focus (first | omega | assumption | (simp; done) | (simp; omega))) | (with_reducible refine ev_neg ?_ ?_; focus (first | omega | assumption | (simp; done) | (simp; omega)))))
    exact Ev.bind (nat_trim_ev (hg.app (Dg.cons (by omega) (by omega) Dg.nil)) (by simp at hb ⊢; omega)) (Ev.now _)
  | d :: a, done, pa, c, he, hc, hg, hb => by
    have hlen : A.length = pa.length + 1 + a.length := by rw [he]; simp; omega
    have hd : 0 ≤ d ∧ d < 4294967296 := by rw [he] at hA; exact hA.right.head
    obtain ⟨X, rfl⟩ := Int.eq_ofNat_of_zero_le hd.1
    have hX : X < 4294967296 := by omega
    have h1 : rd A (pa.length : Int) = (X : Int) := by rw [he]; exact rd_app rfl
    refine ev_step ?_
    simp only [nat_up.l0, h1, w64s (n := pa.length) (by omega), up_digit X s c hs hX hc, up_carry X s c hs hX hc]
    have w32 : wrap64 (32 - (s : Int)) = 32 - (s : Int) := by unfold wrap64; omega
    (repeat (first | (with_reducible refine ev_pos ?_ ?_; focus (first | omega | assumption | (simp; done) | (simp; omega))) | (with_reducible refine ev_neg ?_ ?_; focus (first | omega | assumption | (simp; done) | (simp; omega)))))
    have := up_l0 A hA hl hs a (done ++ [(((X * 2 ^ s + c) % 4294967296 : Nat) : Int)]) (pa ++ [(X : Int)]) ((X * 2 ^ s + c) / 4294967296) (by rw [he]; simp) (up_carry_lt X s c hs hX hc) (hg.app (Dg.cons (by omega) (by omega) Dg.nil)) (by simp at hb ⊢; omega)
    rw [List.length_append, List.length_singleton] at this
    refine ev_eq this ?_
    simp [upRec]
theorem rup_l0 (A : List Int) (hA : Dg A) (hl : A.length < 1000000000) {s : Nat} (hs : s < 32) : ∀ (a done pa : List Int) (c : Nat), A = pa ++ a → c < 2 ^ s → Dg done → done.length + a.length < 2000000000 →
    Ev (fun k => cutplaneref01_Up.l0 k A done s c pa.length) (D (V (done ++ upRec (2 ^ s) a c)))
  | [], done, pa, c, he, hc, hg, hb => by
    have hlen : A.length = pa.length := by rw [he]; simp
    have hle : 2 ^ s ≤ 2 ^ 31 := Nat.pow_le_pow_right (by omega) (by omega)
    refine ev_step ?_
    have e : (c : Int) % 4294967296 = (c : Int) := by omega
    simp only [cutplaneref01_Up.l0, e]
    (repeat (first | (with_reducible refine ev_pos ?_ ?_; focus (first | omega | assumption | (simp; done) | (simp; omega))) | (with_reducible refine ev_neg ?_ ?_; focus (first | omega | assumption | (simp; done) | (simp; omega)))))
    exact Ev.bind (ref_Trim_ev (hg.app (Dg.cons (by omega) (by omega) Dg.nil)) (by simp at hb ⊢; omega)) (Ev.now _)
  | d :: a, done, pa, c, he, hc, hg, hb => by
    have hlen : A.length = pa.length + 1 + a.length := by rw [he]; simp; omega
    have hd : 0 ≤ d ∧ d < 4294967296 := by rw [he] at hA; exact hA.right.head
    obtain ⟨X, rfl⟩ := Int.eq_ofNat_of_zero_le hd.1
    have hX : X < 4294967296 := by omega
    have h1 : rd A (pa.length : Int) = (X : Int) := by rw [he]; exact rd_app rfl
    have e1 : ((X * 2 ^ s + c : Nat) : Int) % 4294967296 = (((X * 2 ^ s + c) % 4294967296 : Nat) : Int) := by omega
    have e2 : ((X * 2 ^ s + c : Nat) : Int) / 4294967296 = (((X * 2 ^ s + c) / 4294967296 : Nat) : Int) := by omega
    refine ev_step ?_
    simp only [cutplaneref01_Up.l0, h1, w64s (n := pa.length) (by omega), rup_or X s c hs hX hc, e1, e2]
    (repeat (first | (with_reducible refine ev_pos ?_ ?_; focus (first | omega | assumption | (simp; done) | (simp; omega))) | (with_reducible refine ev_neg ?_ ?_; focus (first | omega | assumption | (simp; done) | (simp; omega)))))
    have := rup_l0 A hA hl hs a (done ++ [(((X * 2 ^ s + c) % 4294967296 : Nat) : Int)]) (pa ++ [(X : Int)]) ((X * 2 ^ s + c) / 4294967296) (by rw [he]; simp) (up_carry_lt X s c hs hX hc) (hg.app (Dg.cons (by omega) (by omega) Dg.nil)) (by simp at hb ⊢; omega)
    rw [List.length_append, List.length_singleton] at this
    refine ev_eq this ?_
    simp [upRec]
theorem t32 {n : Nat} (h : n < 4611686018427387904) : wrap64 (Int.tdiv (n : Int) 32) = ((n / 32 : Nat) : Int) := by
  rw [Int.tdiv_eq_ediv_of_nonneg (by omega)]; unfold wrap64; omega
theorem m32 (n : Nat) : Int.tmod (n : Int) 32 = ((n % 32 : Nat) : Int) := by
  rw [Int.tmod_eq_emod_of_nonneg (by omega)]; omega
theorem pw_split (n : Nat) : 2 ^ n = 4294967296 ^ (n / 32) * 2 ^ (n % 32) := by
  have h : (4294967296 : Nat) = 2 ^ 32 := by decide
  rw [h, ← Nat.pow_mul, ← Nat.pow_add]; congr 1; omega
theorem up_V {a : List Int} (ha : Dg a) (n : Nat) : V (List.replicate (n / 32) 0 ++ upRec (2 ^ (n % 32)) a 0) = V a * 2 ^ n := by
  have h := (upRec_V (s := n % 32) (by omega) a 0 ha (pw_pos _)).1
  rw [V_append, V_zeros, List.length_replicate, h, Nat.zero_add, Nat.add_zero, pw_split n, Nat.mul_left_comm]
theorem nat_up_ev {a : List Int} (ha : Dg a) (la : a.length < 1000000000) (n : Nat) (hn : n < 1000000000) : Ev (fun k => nat_up.f k a n) (D (V a * 2 ^ n)) := by
  unfold nat_up.f
  have e1 : wrap64 (wrap64 (((n / 32 : Nat) : Int) + (a.length : Int)) + 1) = ((n / 32 + a.length + 1 : Nat) : Int) := by unfold wrap64; omega
  simp only [t32 (n := n) (by omega), m32, e1]
  clear e1
  by_cases h0 : a = []
  · subst h0
    (repeat (first | (with_reducible refine ev_pos ?_ ?_; focus (first | omega | assumption | (simp; done) | (simp; omega))) | (with_reducible refine ev_neg ?_ ?_; focus (first | omega | assumption | (simp; done) | (simp; omega)))))
    exact ev_eq (Ev.now _) (by simp [D_zero])
  · have : 0 < a.length := List.length_pos_iff.2 h0
    (repeat (first | (with_reducible refine ev_pos ?_ ?_; focus (first | omega | assumption | (simp; done) | (simp; omega))) | (with_reducible refine ev_neg ?_ ?_; focus (first | omega | assumption | (simp; done) | (simp; omega)))))
    have h := up_l0 a ha la (s := n % 32) (by omega) a (List.replicate (n / 32) 0) [] 0 rfl (pw_pos _) (Dg.zeros _) (by simp; omega)
    rw [up_V ha] at h
    simp only [Int.toNat_natCast]
    simpa using h
theorem ref_Up_ev {a : List Int} (ha : Dg a) (la : a.length < 1000000000) (n : Nat) (hn : n < 1000000000) : Ev (fun k => cutplaneref01_Up.f k a n) (D (V a * 2 ^ n)) := by
  unfold cutplaneref01_Up.f
  simp only [t32 (n := n) (by omega), m32]
  by_cases h0 : a = []
  · subst h0
    (repeat (first | (with_reducible refine ev_pos ?_ ?_; focus (first | omega | assumption | (simp; done) | (simp; omega))) | (with_reducible refine ev_neg ?_ ?_; focus (first | omega | assumption | (simp; done) | (simp; omega)))))
    exact ev_eq (Ev.now _) (by simp [D_zero])
  · have : 0 < a.length := List.length_pos_iff.2 h0
    (repeat (first | (with_reducible refine ev_pos ?_ ?_; focus (first | omega | assumption | (simp; done) | (simp; omega))) | (with_reducible refine ev_neg ?_ ?_; focus (first | omega | assumption | (simp; done) | (simp; omega)))))
    have h := rup_l0 a ha la (s := n % 32) (by omega) a (List.replicate (n / 32) 0) [] 0 rfl (pw_pos _) (Dg.zeros _) (by simp; omega)
    rw [up_V ha] at h
    simp only [Int.toNat_natCast]
    simpa using h
end Go.Proofs.YtbcjdlljmhfhdaaGreatDoor.Eng.K

/- The first layer's plain functions: a power of two off, bits. -/
set_option linter.unusedVariables false
set_option linter.unusedSimpArgs false
namespace Go.Proofs.YtbcjdlljmhfhdaaGreatDoor.Eng.K
open Go.RowKit

theorem pw' {s : Nat} (h : s ≤ 32) : 2 ^ (32 - s) * 2 ^ s = 4294967296 := by rw [Nat.mul_comm]; exact pw h
theorem V_drop {l : List Int} (h : Dg l) (q : Nat) : V (l.drop q) = V l / 4294967296 ^ q := by
  by_cases hq : q ≤ l.length
  · have e : V l = V (l.take q) + 4294967296 ^ q * V (l.drop q) := by
      conv => lhs; rw [← List.take_append_drop q l, V_append, List.length_take, Nat.min_eq_left hq]
    have hlt : V (l.take q) < 4294967296 ^ q := by
      have := V_lt (h.take q); rwa [List.length_take, Nat.min_eq_left hq] at this
    rw [e, Nat.add_mul_div_left _ _ (Nat.pow_pos (by omega)), Nat.div_eq_of_lt hlt, Nat.zero_add]
  · rw [List.drop_eq_nil_of_le (by omega), V_nil, Nat.div_eq_of_lt]
    exact Nat.lt_of_lt_of_le (V_lt h) (Nat.pow_le_pow_right (by omega) (by omega))
theorem lt_cast {m : Nat} (h : m < 4294967296) : (m : Int) < 4294967296 := by omega
theorem down_shl (Y s : Nat) (hs : s < 32) (hY : Y < 4294967296) : (shl .u64 (IntKind.u64.wrap (Y : Int)) (wrap64 (32 - (s : Int)))) % 4294967296 = ((2 ^ (32 - s) * (Y % 2 ^ s) : Nat) : Int) := by
  rw [wrap_u64n _ hY, w32s (by omega), shl64 _ _ (by omega) hY]
  have h := (shift_nat (X := Y) (P := 2 ^ (32 - s)) (Q := 2 ^ s) (c := 0) (pw_pos _) (pw_pos _)).2
  rw [pw' (by omega), Nat.add_zero, Nat.add_zero] at h
  rw [← h]; omega
theorem down_lt (X Y s : Nat) (hs : s < 32) (hX : X < 4294967296) : X / 2 ^ s + 2 ^ (32 - s) * (Y % 2 ^ s) < 4294967296 := by
  have h1 := div_lt_pw (s := s) (by omega) hX
  have h2 : Y % 2 ^ s + 1 ≤ 2 ^ s := Nat.mod_lt _ (pw_pos _)
  have h3 := Nat.mul_le_mul_left (2 ^ (32 - s)) h2
  rw [pw' (by omega), Nat.mul_add] at h3
  omega
theorem down_digit (X Y s : Nat) (hs : s < 32) (hX : X < 4294967296) (hY : Y < 4294967296) : Go.bits .or .u32 ((X / 2 ^ s : Nat) : Int) ((shl .u64 (IntKind.u64.wrap (Y : Int)) (wrap64 (32 - (s : Int)))) % 4294967296) = ((X / 2 ^ s + 2 ^ (32 - s) * (Y % 2 ^ s) : Nat) : Int) := by
  have hl := down_lt X Y s hs hX
  rw [down_shl Y s hs hY, u32_or_nat _ _ (Nat.lt_of_le_of_lt (Nat.le_add_right _ _) hl) (Nat.lt_of_le_of_lt (Nat.le_add_left _ _) hl), Nat.or_comm, ← Nat.two_pow_add_eq_or_of_lt (div_lt_pw (by omega) hX), Nat.add_comm]
theorem rdown_digit (X Y s : Nat) (hs : s < 32) (hX : X < 4294967296) (hY : Y < 4294967296) : (Go.bits .or .u64 (shr .u64 (IntKind.u64.wrap (X : Int)) (s : Int)) (shl .u64 (IntKind.u64.wrap (Y : Int)) (wrap64 (32 - (s : Int))))) % 4294967296 = ((X / 2 ^ s + 2 ^ (32 - s) * (Y % 2 ^ s) : Nat) : Int) := by
  have hl := div_lt_pw (s := s) (by omega) hX
  have hle : 2 ^ (32 - s) ≤ 2 ^ 32 := Nat.pow_le_pow_right (by omega) (by omega)
  have h2 : Y * 2 ^ (32 - s) ≤ 4294967295 * 2 ^ 32 := Nat.mul_le_mul (by omega) hle
  have hX2 : X / 2 ^ s ≤ X := Nat.div_le_self _ _
  rw [wrap_u64n _ hX, wrap_u64n _ hY, w32s (by omega), shl64 _ _ (by omega) hY, shr_n _ _ (by simp [IntKind.bits]; omega), u64_or_nat _ _ (by omega) (by omega), Nat.or_comm, Nat.mul_comm Y, ← Nat.two_pow_add_eq_or_of_lt hl, Nat.mul_comm _ Y]
  have h := (shift_nat (X := Y) (P := 2 ^ (32 - s)) (Q := 2 ^ s) (c := X / 2 ^ s) (pw_pos _) hl).2
  rw [pw' (by omega)] at h
  rw [Nat.add_comm (X / 2 ^ s), ← h]; omega

def downRec (s : Nat) : List Int → List Int
  | [] => []
  | d :: l => ((d.toNat / 2 ^ s + 2 ^ (32 - s) * ((l.headD 0).toNat % 2 ^ s) : Nat) : Int) :: downRec s l
theorem V_mod_pw {l : List Int} {s : Nat} (hs : s ≤ 32) : V l % 2 ^ s = (l.headD 0).toNat % 2 ^ s := by
  cases l with
  | nil => simp
  | cons d l =>
    have h := pw (s := s) hs
    simp only [V_cons, List.headD_cons]
    rw [← h, Nat.mul_assoc, Nat.add_mul_mod_self_left]
theorem downRec_V {s : Nat} (hs : s < 32) : ∀ (l : List Int), Dg l → V (downRec s l) = V l / 2 ^ s ∧ Dg (downRec s l)
  | [], _ => by simp [downRec, Dg.nil]
  | d :: l, hg => by
    have hd := hg.head
    have ih := downRec_V hs l hg.tail
    have hl := down_lt d.toNat (l.headD 0).toNat s hs (by omega)
    simp only [downRec, V_cons, ih.1]
    refine ⟨?_, Dg.cons nn (lt_cast hl) ih.2⟩
    rw [← V_mod_pw (l := l) (by omega), Int.toNat_natCast]
    have h := pw (s := s) (by omega)
    have h' := pw' (s := s) (by omega)
    have e1 : (d.toNat + 4294967296 * V l) / 2 ^ s = d.toNat / 2 ^ s + 2 ^ (32 - s) * V l := by
      rw [← h, Nat.mul_assoc, Nat.add_mul_div_left _ _ (pw_pos _)]
    have e2 : 2 ^ (32 - s) * V l = 2 ^ (32 - s) * (V l % 2 ^ s) + 4294967296 * (V l / 2 ^ s) := by
      rw [← h', Nat.mul_assoc, ← Nat.mul_add, Nat.mod_add_div]
    rw [e1, e2, Nat.add_assoc]
theorem down_V {a : List Int} (ha : Dg a) (n : Nat) : V (downRec (n % 32) (a.drop (n / 32))) = V a / 2 ^ n := by
  rw [(downRec_V (by omega) _ (ha.drop _)).1, V_drop ha, Nat.div_div_eq_div_mul, ← pw_split]

theorem down_l0 (A : List Int) (hA : Dg A) (hl : A.length < 1000000000) {s : Nat} (hs : s < 32) : ∀ (a done pa : List Int), A = pa ++ a → done.length = pa.length → Dg done →
    Ev (fun k => nat_down.l0 k A s (done ++ List.replicate a.length 0) A A.length pa.length) (D (V (done ++ downRec s a)))
  | [], done, pa, he, hd, hg => by
    have hlen : A.length = pa.length := by rw [he]; simp
    refine ev_step ?_
    simp only [nat_down.l0]
    (repeat (first | (with_reducible refine ev_pos ?_ ?_; focus (first | omega | assumption | (simp; done) | (simp; omega))) | (with_reducible refine ev_neg ?_ ?_; focus (first | omega | assumption | (simp; done) | (simp; omega)))))
    simp only [List.length_nil, List.replicate_zero, downRec]
    exact Ev.bind (nat_trim_ev (l := done ++ []) (by simpa using hg) (by simp; omega)) (Ev.now _)
  | d :: a, done, pa, he, hd, hg => by
    have hlen : A.length = pa.length + 1 + a.length := by rw [he]; simp; omega
    have hdd : 0 ≤ d ∧ d < 4294967296 := by rw [he] at hA; exact hA.right.head
    obtain ⟨X, rfl⟩ := Int.eq_ofNat_of_zero_le hdd.1
    have hX : X < 4294967296 := by omega
    have h1 : rd A (pa.length : Int) = (X : Int) := by rw [he]; exact rd_app rfl
    have hg2 : Dg (a) := by rw [he] at hA; exact hA.right.tail
    have hy := hg2.headD
    have ih := down_l0 A hA hl hs a (done ++ [((X / 2 ^ s + 2 ^ (32 - s) * ((a.headD 0).toNat % 2 ^ s) : Nat) : Int)]) (pa ++ [(X : Int)]) (by rw [he]; simp) (by simp [hd])
      (hg.app (Dg.cons nn (lt_cast (down_lt X (a.headD 0).toNat s hs hX)) Dg.nil))
    rw [@List.length_append _ pa, List.length_singleton] at ih
    refine ev_step ?_
    have hset : (done ++ List.replicate ((X : Int) :: a).length 0).set ((pa.length : Int)).toNat ((X / 2 ^ s : Nat) : Int) = (done ++ [((X / 2 ^ s : Nat) : Int)]) ++ List.replicate a.length 0 := by
      rw [List.length_cons, List.replicate_succ, set_app (by omega)]
    simp only [nat_down.l0, h1, w64s (n := pa.length) (by omega), shr_n (k := .u32) X s (by simp [IntKind.bits]; omega), hset, Option.bind_some]
    have w32 : wrap64 (32 - (s : Int)) = 32 - (s : Int) := by unfold wrap64; omega
    (repeat (first | (with_reducible refine ev_pos ?_ ?_; focus (first | omega | assumption | (simp; done) | (simp; omega))) | (with_reducible refine ev_neg ?_ ?_; focus (first | omega | assumption | (simp; done) | (simp; omega)))))
    by_cases hn : a = []
    · subst hn
      simp only [List.length_nil, Nat.add_zero] at hlen
      (repeat (first | (with_reducible refine ev_pos ?_ ?_; focus (first | omega | assumption | (simp; done) | (simp; omega))) | (with_reducible refine ev_neg ?_ ?_; focus (first | omega | assumption | (simp; done) | (simp; omega)))))
      refine ev_eq (by simpa [downRec] using ih) ?_
      simp [downRec]
    · obtain ⟨y, a', rfl⟩ := List.exists_cons_of_ne_nil hn
      obtain ⟨Y, rfl⟩ := Int.eq_ofNat_of_zero_le hy.1
      simp only [List.headD_cons] at hy ih
      have hlen' := hlen
      simp only [List.length_cons] at hlen'
      have h2 : rd A ((pa.length + 1 : Nat) : Int) = (Y : Int) := by rw [he, show pa ++ (X : Int) :: (Y : Int) :: a' = (pa ++ [(X : Int)]) ++ (Y : Int) :: a' by simp]; exact rd_app (by simp)
      have h3 : rd (done ++ [((X / 2 ^ s : Nat) : Int)] ++ List.replicate ((Y : Int) :: a').length 0) (pa.length : Int) = ((X / 2 ^ s : Nat) : Int) := by rw [List.append_assoc, List.singleton_append]; exact rd_app (by omega)
      have hset2 : (done ++ [((X / 2 ^ s : Nat) : Int)] ++ List.replicate ((Y : Int) :: a').length 0).set ((pa.length : Int)).toNat ((X / 2 ^ s + 2 ^ (32 - s) * (Y % 2 ^ s) : Nat) : Int) = done ++ [((X / 2 ^ s + 2 ^ (32 - s) * (Y % 2 ^ s) : Nat) : Int)] ++ List.replicate ((Y : Int) :: a').length 0 := by
        rw [List.append_assoc, List.singleton_append, set_app (by omega)]
      simp only [h2, h3, down_digit X Y s hs hX (by omega), hset2]
      (repeat (first | (with_reducible refine ev_pos ?_ ?_; focus (first | omega | assumption | (simp; done) | (simp; omega))) | (with_reducible refine ev_neg ?_ ?_; focus (first | omega | assumption | (simp; done) | (simp; omega)))))
      rw [Int.toNat_natCast] at ih
      refine ev_eq ih ?_
      simp [downRec]
theorem nat_down_ev {a : List Int} (ha : Dg a) (la : a.length < 1000000000) (n : Nat) (hn : n < 100000000000) : Ev (fun k => nat_down.f k a n) (D (V a / 2 ^ n)) := by
  unfold nat_down.f
  simp only [t32 (n := n) (by omega), m32]
  by_cases h : n / 32 ≥ a.length
  · (repeat (first | (with_reducible refine ev_pos ?_ ?_; focus (first | omega | assumption | (simp; done) | (simp; omega))) | (with_reducible refine ev_neg ?_ ?_; focus (first | omega | assumption | (simp; done) | (simp; omega)))))
    have : V a / 2 ^ n = 0 := by
      rw [pw_split, ← Nat.div_div_eq_div_mul, ← V_drop ha, List.drop_eq_nil_of_le h]; simp
    rw [this, D_zero]; exact Ev.now _
  · (repeat (first | (with_reducible refine ev_pos ?_ ?_; focus (first | omega | assumption | (simp; done) | (simp; omega))) | (with_reducible refine ev_neg ?_ ?_; focus (first | omega | assumption | (simp; done) | (simp; omega)))))
    have h := down_l0 (a.drop (n / 32)) (ha.drop _) (by simp; omega) (s := n % 32) (by omega) (a.drop (n / 32)) [] [] rfl rfl Dg.nil
    simp only [List.nil_append, down_V ha] at h
    simp only [Int.toNat_natCast]
    simpa using h

/-! ### bits -/
theorem ref_Bit_eq {l : List Int} (h : Dg l) (hl : l.length < 1000000000) (i : Nat) (hi : i < 4611686018427387904) : cutplaneref01_Bit.f l i = some ((V l / 2 ^ i % 2 : Nat) : Int) := by
  unfold cutplaneref01_Bit.f
  simp only [t32 hi, m32]
  rw [if_neg (by omega)]
  by_cases hq : i / 32 ≥ l.length
  · rw [if_pos (by omega)]
    have : V l / 2 ^ i = 0 := by
      rw [pw_split, ← Nat.div_div_eq_div_mul, ← V_drop h, List.drop_eq_nil_of_le hq]; simp
    rw [this]; rfl
  · rw [if_neg (by omega), if_pos nn, if_pos (by omega), if_pos nn]
    rw [rdn]
    have hx := h.getD (i / 32)
    obtain ⟨X, hX⟩ := Int.eq_ofNat_of_zero_le hx.1
    have hX2 : X < 4294967296 := by omega
    rw [hX, shr_n _ _ (by simp [IntKind.bits]; omega)]
    have hle : X / 2 ^ (i % 32) ≤ X := Nat.div_le_self _ _
    have e := u32_and_nat (X / 2 ^ (i % 32)) 1 (by omega) (by omega)
    rw [Nat.and_one_is_mod] at e
    rw [show (1 : Int) = ((1 : Nat) : Int) from rfl, e]
    congr 2
    rw [pw_split i, ← Nat.div_div_eq_div_mul, ← V_drop h]
    have hd : l.drop (i / 32) = (X : Int) :: l.drop (i / 32 + 1) := by
      rw [List.drop_eq_getElem_cons (by omega)]
      congr 1
      rw [← hX, List.getD_eq_getElem?_getD, List.getElem?_eq_getElem (by omega)]; rfl
    rw [hd, V_cons, Int.toNat_natCast, ← pw (s := i % 32) (by omega), Nat.mul_assoc, Nat.add_mul_div_left _ _ (pw_pos _)]
    have e3 : 2 ^ (32 - i % 32) = 2 * 2 ^ (31 - i % 32) := by
      rw [show 32 - i % 32 = (31 - i % 32) + 1 by omega, Nat.pow_succ, Nat.mul_comm]
    rw [e3, Nat.mul_assoc, Nat.add_mul_mod_self_left]
end Go.Proofs.YtbcjdlljmhfhdaaGreatDoor.Eng.K

/- The first layer's reference: quotients bit by bit. -/
set_option linter.unusedVariables false
set_option linter.unusedSimpArgs false
namespace Go.Proofs.YtbcjdlljmhfhdaaGreatDoor.Eng.K
open Go.RowKit

theorem bl_list {l : List Int} (h : Dg l) : bl (V l) ≤ 32 * l.length := by
  apply bl_le_of_lt
  have := V_lt h
  rwa [show (4294967296 : Nat) = 2 ^ 32 from rfl, ← Nat.pow_mul] at this
theorem D_lt {n k : Nat} (h : n < 4294967296 ^ k) : (D n).length ≤ k := by
  rcases Nat.lt_or_ge k (D n).length with h1 | h1
  · have h2 := D_len_pos (Nm_D n) (by intro e; rw [e] at h1; simp at h1)
    rw [V_D] at h2
    have h3 : 4294967296 ^ k ≤ 4294967296 ^ ((D n).length - 1) := Nat.pow_le_pow_right (by omega) (by omega)
    omega
  · exact h1
theorem rdown_l0 (A : List Int) (hA : Dg A) (hl : A.length < 1000000000) (b : Bool) {s : Nat} (hs : s < 32) : ∀ (a done pa : List Int), A = pa ++ a → done.length + a.length < 1000000000 → Dg done →
    Ev (fun k => cutplaneref01_Down.l0 k A b done s pa.length) (D (V (done ++ downRec s a)), b)
  | [], done, pa, he, hd, hg => by
    have hlen : A.length = pa.length := by rw [he]; simp
    refine ev_step ?_
    simp only [cutplaneref01_Down.l0]
    (repeat (first | (with_reducible refine ev_pos ?_ ?_; focus (first | omega | assumption | (simp; done) | (simp; omega))) | (with_reducible refine ev_neg ?_ ?_; focus (first | omega | assumption | (simp; done) | (simp; omega)))))
    simp only [downRec, List.append_nil]
    exact Ev.bind (ref_Trim_ev hg (by simp at hd; omega)) (Ev.now _)
  | d :: a, done, pa, he, hd, hg => by
    have hlen : A.length = pa.length + 1 + a.length := by rw [he]; simp; omega
    have hdd : 0 ≤ d ∧ d < 4294967296 := by rw [he] at hA; exact hA.right.head
    obtain ⟨X, rfl⟩ := Int.eq_ofNat_of_zero_le hdd.1
    have hX : X < 4294967296 := by omega
    have h1 : rd A (pa.length : Int) = (X : Int) := by rw [he]; exact rd_app rfl
    have hg2 : Dg (a) := by rw [he] at hA; exact hA.right.tail
    have hy := hg2.headD
    have ih := rdown_l0 A hA hl b hs a (done ++ [((X / 2 ^ s + 2 ^ (32 - s) * ((a.headD 0).toNat % 2 ^ s) : Nat) : Int)]) (pa ++ [(X : Int)]) (by rw [he]; simp) (by simp at hd ⊢; omega)
      (hg.app (Dg.cons nn (lt_cast (down_lt X (a.headD 0).toNat s hs hX)) Dg.nil))
    rw [@List.length_append _ pa, List.length_singleton] at ih
    have hXs : X / 2 ^ s ≤ X := Nat.div_le_self _ _
    have e0 : ((X / 2 ^ s : Nat) : Int) % 4294967296 = ((X / 2 ^ s : Nat) : Int) := by
      generalize X / 2 ^ s = z at *; omega
    refine ev_step ?_
    simp only [cutplaneref01_Down.l0, h1, w64s (n := pa.length) (by omega)]
    (repeat (first | (with_reducible refine ev_pos ?_ ?_; focus (first | omega | assumption | (simp; done) | (simp; omega))) | (with_reducible refine ev_neg ?_ ?_; focus (first | omega | assumption | (simp; done) | (simp; omega)))))
    by_cases hn : a = []
    · subst hn
      simp only [List.length_nil, Nat.add_zero] at hlen
      (repeat (first | (with_reducible refine ev_pos ?_ ?_; focus (first | omega | assumption | (simp; done) | (simp; omega))) | (with_reducible refine ev_neg ?_ ?_; focus (first | omega | assumption | (simp; done) | (simp; omega)))))
      rw [wrap_u64n _ hX, shr_n _ _ (by simp [IntKind.bits]; omega), e0]
      refine ev_eq (by simpa [downRec] using ih) ?_
      simp [downRec]
    · obtain ⟨y, a', rfl⟩ := List.exists_cons_of_ne_nil hn
      obtain ⟨Y, rfl⟩ := Int.eq_ofNat_of_zero_le hy.1
      simp only [List.headD_cons] at hy ih
      have hlen' := hlen
      have w32 : wrap64 (32 - (s : Int)) = 32 - (s : Int) := by unfold wrap64; omega
      have hd' := hd
      simp only [List.length_cons] at hd'
      simp only [List.length_cons] at hlen'
      have h2 : rd A ((pa.length + 1 : Nat) : Int) = (Y : Int) := by rw [he, show pa ++ (X : Int) :: (Y : Int) :: a' = (pa ++ [(X : Int)]) ++ (Y : Int) :: a' by simp]; exact rd_app (by simp)
      simp only [h2, rdown_digit X Y s hs hX (by omega)]
      (repeat (first | (with_reducible refine ev_pos ?_ ?_; focus (first | omega | assumption | (simp; done) | (simp; omega))) | (with_reducible refine ev_neg ?_ ?_; focus (first | omega | assumption | (simp; done) | (simp; omega)))))
      rw [Int.toNat_natCast] at ih
      refine ev_eq ih ?_
      simp [downRec]
/-! ### quotients -/
end Go.Proofs.YtbcjdlljmhfhdaaGreatDoor.Eng.K

/- The first layer's reference: the quotient bit by bit. -/
set_option linter.unusedVariables false
set_option linter.unusedSimpArgs false
namespace Go.Proofs.YtbcjdlljmhfhdaaGreatDoor.Eng.K
open Go.RowKit

theorem cmpN_ge {m n : Nat} : (cmpN m n ≥ 0) ↔ n ≤ m := by
  unfold cmpN; split
  · constructor <;> intro h <;> omega
  · split <;> constructor <;> intro h <;> omega
end Go.Proofs.YtbcjdlljmhfhdaaGreatDoor.Eng.K

/- The first layer's long division: one digit of the quotient. -/
set_option linter.unusedVariables false
set_option linter.unusedSimpArgs false
namespace Go.Proofs.YtbcjdlljmhfhdaaGreatDoor.Eng.K
open Go.RowKit

/-! ### the guess -/
theorem u64_n {n : Nat} (h : n < 18446744073709551616) : IntKind.u64.wrap (n : Int) = (n : Int) := u64 (by omega) (by omega)
end Go.Proofs.YtbcjdlljmhfhdaaGreatDoor.Eng.K

/- The first layer's long division: a digit of the quotient. -/
set_option linter.unusedVariables false
set_option linter.unusedSimpArgs false
namespace Go.Proofs.YtbcjdlljmhfhdaaGreatDoor.Eng.K
open Go.RowKit

theorem tmod_n (a b : Nat) : Int.tmod (a : Int) (b : Int) = ((a % b : Nat) : Int) := rfl
end Go.Proofs.YtbcjdlljmhfhdaaGreatDoor.Eng.K

/- The first layer's long division. -/
set_option linter.unusedVariables false
set_option linter.unusedSimpArgs false
namespace Go.Proofs.YtbcjdlljmhfhdaaGreatDoor.Eng.K
open Go.RowKit

theorem w3 {i m : Nat} (h1 : i < 100000000) (h2 : m < 100000000) : wrap64 (wrap64 ((i : Int) + ((m + 2 : Nat) : Int)) + 1) = ((i + (m + 3) : Nat) : Int) := by unfold wrap64; omega
end Go.Proofs.YtbcjdlljmhfhdaaGreatDoor.Eng.K

/- The place of the lowest bit: what it is; the program's way to it, and the reference's. -/
set_option linter.unusedVariables false
set_option linter.unusedSimpArgs false
namespace Go.Proofs.YtbcjdlljmhfhdaaGreatDoor.Eng.K
open Go.RowKit

theorem mx_eq (a b : Int) : mx a b = max a b := by unfold mx; split <;> omega
theorem nat_Len_ev {l : List Int} (h : Nm l) (hb : l.length ≤ 4096) : Ev (fun k => nat_Len.f k l) ((bl (V l) : Nat) : Int) := by
  unfold nat_Len.f
  refine ev_bind (nat_May_eq h.dg (by omega)) ?_
  rw [may_iff.2 ⟨hb, h⟩]
  (repeat (first | (with_reducible refine ev_pos ?_ ?_; focus (first | omega | assumption | (simp; done) | (simp; omega))) | (with_reducible refine ev_neg ?_ ?_; focus (first | omega | assumption | (simp; done) | (simp; omega)))))
  by_cases c : l.length = 0
  · have : l = [] := List.eq_nil_of_length_eq_zero c
    subst this
    (repeat (first | (with_reducible refine ev_pos ?_ ?_; focus (first | omega | assumption | (simp; done) | (simp; omega))) | (with_reducible refine ev_neg ?_ ?_; focus (first | omega | assumption | (simp; done) | (simp; omega)))))
    exact ev_eq (Ev.now _) rfl
  · have e : wrap64 ((l.length : Int) - 1) = ((l.length - 1 : Nat) : Int) := by unfold wrap64; omega
    rw [e]
    clear e
    have hd := h.dg.getD (l.length - 1)
    have hne : l ≠ [] := fun e => c (by rw [e]; rfl)
    rw [rdn]
    (repeat (first | (with_reducible refine ev_pos ?_ ?_; focus (first | omega | assumption | (simp; done) | (simp; omega))) | (with_reducible refine ev_neg ?_ ?_; focus (first | omega | assumption | (simp; done) | (simp; omega)))))
    refine Ev.bind (len32_ev hd) (ev_eq (Ev.now _) ?_)
    rw [bl_V h hne]
    generalize l.getD (l.length - 1) 0 = x at hd
    have hbn : bl x.toNat ≤ 32 := bl_le_of_lt (by omega)
    unfold wrap64
    omega

/-- The lowest bit's place: n is 2 to it times an odd number. -/
def IsLow (n b : Nat) : Prop := ∃ m, n = 2 ^ b * (2 * m + 1)
theorem IsLow.ne {n b : Nat} (h : IsLow n b) : n ≠ 0 := by
  obtain ⟨m, h⟩ := h
  have := Nat.mul_pos (pw_pos b) (show 0 < 2 * m + 1 by omega)
  omega
theorem IsLow.le {n b : Nat} (h : IsLow n b) : 2 ^ b ≤ n := by
  obtain ⟨m, h⟩ := h
  rw [h]; exact Nat.le_mul_of_pos_right _ (by omega)
theorem IsLow.mod {n b k : Nat} (h : IsLow n b) : n % 2 ^ k = 0 ↔ k ≤ b := by
  obtain ⟨m, h⟩ := h
  constructor
  · intro hk
    rcases Nat.lt_or_ge b k with h1 | h1
    · exfalso
      obtain ⟨d, rfl⟩ := Nat.exists_eq_add_of_lt h1
      have hd : 2 ^ (b + d + 1) ∣ 2 ^ b * (2 * m + 1) := by rw [← h]; exact Nat.dvd_of_mod_eq_zero hk
      rw [Nat.add_assoc, Nat.pow_add] at hd
      have h2 := Nat.dvd_of_mul_dvd_mul_left (pw_pos b) hd
      rw [Nat.pow_succ] at h2
      have h3 : 2 ∣ 2 * m + 1 := Nat.dvd_trans (Nat.dvd_mul_left 2 _) h2
      omega
    · exact h1
  · intro hk
    obtain ⟨d, rfl⟩ := Nat.exists_eq_add_of_le hk
    rw [h, Nat.pow_add, Nat.mul_assoc]
    exact Nat.mul_mod_right _ _
theorem IsLow.unique {n b c : Nat} (h : IsLow n b) (k : IsLow n c) : b = c := by
  have h1 := (h.mod (k := b)).2 (Nat.le_refl _)
  have h2 := (k.mod (k := c)).2 (Nat.le_refl _)
  have h3 := k.mod.1 h1
  have h4 := h.mod.1 h2
  omega
theorem isLow_bit {n b : Nat} (h : n % 2 ^ b = 0) (k : n / 2 ^ b % 2 = 1) : IsLow n b :=
  ⟨n / 2 ^ b / 2, by
    have h1 := Nat.div_add_mod n (2 ^ b)
    rw [h, Nat.add_zero] at h1
    have h2 : 2 * (n / 2 ^ b / 2) + 1 = n / 2 ^ b := by omega
    rw [h2, h1]⟩
theorem isLow_up {n b k : Nat} (h : IsLow n b) : IsLow (n * 2 ^ k) (b + k) := by
  obtain ⟨m, h⟩ := h
  exact ⟨m, by rw [h, Nat.pow_add, Nat.mul_assoc, Nat.mul_comm (2 * m + 1), ← Nat.mul_assoc]⟩
theorem isLow_ctz {x : Nat} (h : x ≠ 0) (hx : x < 4294967296) : IsLow x (Lib.ctz 32 x) ∧ Lib.ctz 32 x < 32 := by
  obtain ⟨m, h1, h2⟩ := Lib.ctzFrom_spec 32 x (by omega) hx
  unfold Lib.ctz
  rw [if_neg h]
  exact ⟨⟨m, h1⟩, h2⟩
theorem isLow_add {x r b : Nat} (h : IsLow x b) (hb : b < 32) : IsLow (x + 4294967296 * r) b := by
  obtain ⟨m, h⟩ := h
  obtain ⟨d, hd⟩ : ∃ d, 32 = b + (d + 1) := ⟨31 - b, by omega⟩
  have e : 4294967296 = 2 ^ b * (2 ^ d * 2) := by
    rw [← Nat.pow_succ, ← Nat.pow_add, Nat.succ_eq_add_one, ← hd]
  have e2 : 2 ^ b * (2 ^ d * 2) * r = 2 ^ b * (2 * (2 ^ d * r)) := by
    rw [Nat.mul_assoc, Nat.mul_comm (2 ^ d) 2, Nat.mul_assoc]
  refine ⟨m + 2 ^ d * r, ?_⟩
  rw [h, e, e2, ← Nat.mul_add]
  congr 1
  omega
def lw (n : Nat) : Nat := if n = 0 then 0 else Lib.ctzFrom n n
theorem lw_is {n : Nat} (h : n ≠ 0) : IsLow n (lw n) := by
  obtain ⟨m, h1, _⟩ := Lib.ctzFrom_spec n n (by omega) Nat.lt_two_pow_self
  unfold lw
  rw [if_neg h]
  exact ⟨m, h1⟩
theorem lw_eq {n b : Nat} (h : IsLow n b) : lw n = b := (lw_is h.ne).unique h
theorem tz_eq {x : Int} (h : 0 ≤ x ∧ x < 4294967296) : bits_TrailingZeros32.f x = some ((Lib.ctz 32 x.toNat : Nat) : Int) := by
  unfold bits_TrailingZeros32.f
  rw [if_pos h]
theorem w32a {i b : Nat} (hi : i < 1000000) (hb : b < 32) : wrap64 (wrap64 (32 * (i : Int)) + (b : Int)) = ((b + 32 * i : Nat) : Int) := by unfold wrap64; omega
theorem nlow_l0 (A : List Int) (hA : Dg A) (hl : A.length < 1000000) : ∀ (a pa : List Int), A = pa ++ a → V pa = 0 → Ev (fun k => nat_Low.l0 k A A.length pa.length) ((lw (V A) : Nat) : Int)
  | [], pa, he, hv => by
    have hlen : A.length = pa.length := by rw [he]; simp
    refine ev_step ?_
    simp only [nat_Low.l0]
    (repeat (first | (with_reducible refine ev_pos ?_ ?_; focus (first | omega | assumption | (simp; done) | (simp; omega))) | (with_reducible refine ev_neg ?_ ?_; focus (first | omega | assumption | (simp; done) | (simp; omega)))))
    refine ev_eq (Ev.now _) ?_
    have : V A = 0 := by rw [he, List.append_nil, hv]
    rw [this]; rfl
  | d :: a, pa, he, hv => by
    have hlen : A.length = pa.length + 1 + a.length := by rw [he]; simp; omega
    have hdd : 0 ≤ d ∧ d < 4294967296 := by rw [he] at hA; exact hA.right.head
    have h1 : rd A (pa.length : Int) = d := by rw [he]; exact rd_app rfl
    refine ev_step ?_
    simp only [nat_Low.l0, h1, w64s (n := pa.length) (by omega)]
    (repeat (first | (with_reducible refine ev_pos ?_ ?_; focus (first | omega | assumption | (simp; done) | (simp; omega))) | (with_reducible refine ev_neg ?_ ?_; focus (first | omega | assumption | (simp; done) | (simp; omega)))))
    by_cases h0 : d = 0
    · refine ev_neg (fun h => h h0) ?_
      have := nlow_l0 A hA hl a (pa ++ [0]) (by rw [he, h0]; simp) (by rw [V_snoc_zero, hv])
      rwa [@List.length_append _ pa, List.length_singleton] at this
    · refine ev_pos h0 ?_
      refine ev_bind (tz_eq hdd) ?_
      (repeat (first | (with_reducible refine ev_pos ?_ ?_; focus (first | omega | assumption | (simp; done) | (simp; omega))) | (with_reducible refine ev_neg ?_ ?_; focus (first | omega | assumption | (simp; done) | (simp; omega)))))
      refine ev_eq (Ev.now _) ?_
      have hz := isLow_ctz (x := d.toNat) (by omega) (by omega)
      have e : V A = (d.toNat + 4294967296 * V a) * 2 ^ (32 * pa.length) := by
        rw [he, V_append, hv, V_cons, Nat.zero_add, Nat.mul_comm, Nat.pow_mul]
      rw [e, lw_eq (isLow_up (isLow_add hz.1 hz.2)), w32a (by omega) hz.2]
theorem nat_Low_ev {a : List Int} (ha : Nm a) (la : a.length ≤ 4096) : Ev (fun k => nat_Low.f k a) ((lw (V a) : Nat) : Int) := by
  unfold nat_Low.f
  refine ev_bind (nat_May_eq ha.dg (by omega)) ?_
  rw [may_iff.2 ⟨la, ha⟩]
  (repeat (first | (with_reducible refine ev_pos ?_ ?_; focus (first | omega | assumption | (simp; done) | (simp; omega))) | (with_reducible refine ev_neg ?_ ?_; focus (first | omega | assumption | (simp; done) | (simp; omega)))))
  exact nlow_l0 a ha.dg (by omega) a [] rfl rfl
theorem V_digit {l : List Int} (h : Dg l) (q : Nat) : V l / 4294967296 ^ q % 4294967296 = (l.getD q 0).toNat := by
  have h1 := V_headtail (l.drop q)
  rw [drop_headD, V_drop h] at h1
  have h2 := h.getD q
  rw [h1, Nat.add_mul_mod_self_left, Nat.mod_eq_of_lt (by omega)]
theorem mod_next {n i : Nat} (h : n % 2 ^ i = 0) (k : n / 2 ^ i % 2 = 0) : n % 2 ^ (i + 1) = 0 := by
  rw [Nat.pow_succ, Nat.mod_mul, h, k, Nat.mul_zero]
theorem mod_dig {n q : Nat} (h : n % 2 ^ (32 * q) = 0) (k : n / 4294967296 ^ q % 4294967296 = 0) : n % 2 ^ (32 * q + 32) = 0 := by
  have e : 2 ^ (32 * q + 32) = 2 ^ (32 * q) * 4294967296 := by rw [Nat.pow_add]
  have e2 : 4294967296 ^ q = 2 ^ (32 * q) := by rw [Nat.pow_mul]
  rw [e, Nat.mod_mul, h, ← e2, k, Nat.mul_zero]
theorem rlow_end {l : List Int} (h : Dg l) {i : Nat} (hi : i = 32 * l.length) (hm : V l % 2 ^ i = 0) : V l = 0 := by
  have hv := V_lt h
  have e2 : 4294967296 ^ l.length = 2 ^ (32 * l.length) := by rw [Nat.pow_mul]
  rw [e2, ← hi] at hv
  rwa [Nat.mod_eq_of_lt hv] at hm
theorem dv32 {i m : Nat} (h : i < 32 * m) : ((i / 32 : Nat) : Int) < (m : Int) := by omega
theorem st32 {i : Nat} (h : i < 100000000000) : wrap64 ((i : Int) + 1) = ((i + 1 : Nat) : Int) ∧ wrap64 ((i : Int) + 32) = ((i + 32 : Nat) : Int) := by unfold wrap64; omega
theorem rlow_l0 {l : List Int} (h : Dg l) (hl : l.length < 1000000000) (n : Nat) : ∀ (i : Nat), 32 * l.length - i ≤ n → i ≤ 32 * l.length → V l % 2 ^ i = 0 → (i % 32 = 0 ∨ l.getD (i / 32) 0 ≠ 0) → Ev (fun k => cutplaneref01_Low.l0 k l i) ((lw (V l) : Nat) : Int) := by
  induction n using Nat.strongRecOn with
  | _ n ih =>
    intro i hn hi hm hd
    have e32 : wrap64 (32 * (l.length : Int)) = ((32 * l.length : Nat) : Int) := by unfold wrap64; omega
    refine ev_step ?_
    simp only [cutplaneref01_Low.l0, e32]
    by_cases hlt : i < 32 * l.length
    · have hb := ref_Bit_eq h hl i (by clear hm hd; omega)
      refine ev_pos (by clear hm hd; omega) ?_
      refine ev_bind hb ?_
      have hi9 : i < 100000000000 := by clear hm hd; omega
      have hn1 : 32 * l.length - (i + 1) < n := by clear hm hd; omega
      have hn32 : 32 * l.length - (i + 32) < n := by clear hm hd; omega
      have hi1 : i + 1 ≤ 32 * l.length := hlt
      have hi32 : i % 32 = 0 → i + 32 ≤ 32 * l.length := by clear hm hd; omega
      have hne : i ≠ 32 * l.length := by clear hm hd; omega
      have et : wrap64 (Int.tdiv (i : Int) 32) = ((i / 32 : Nat) : Int) := t32 (by clear hm hd; omega)
      have hdv := dv32 hlt
      simp only [et, rdn]
      rw [(st32 hi9).1, (st32 hi9).2]
      clear et e32
      rcases Nat.mod_two_eq_zero_or_one (V l / 2 ^ i) with hz | hz
      · rw [hz]
        refine ev_pos rfl (ev_pos nn (ev_pos hdv ?_))
        by_cases h0 : l.getD (i / 32) 0 = 0
        · have hi0 : i % 32 = 0 := hd.resolve_right (fun h => h h0)
          have hi33 := hi32 hi0
          obtain ⟨q, hq0⟩ : ∃ q, i = 32 * q := ⟨i / 32, by clear hm hd hz; omega⟩
          subst hq0
          have hq : 32 * q / 32 = q := by clear hm hd hz; omega
          rw [hq] at h0
          rw [hq]
          refine ev_pos h0 ?_
          refine ih _ hn32 (32 * q + 32) (Nat.le_refl _) hi33 (mod_dig hm ?_) (.inl ?_)
          · rw [V_digit h, h0]; rfl
          · clear hm hd hz; omega
        · refine ev_neg h0 ?_
          refine ih _ hn1 (i + 1) (Nat.le_refl _) hi1 (mod_next hm hz) ?_
          clear hm hd hz
          rcases Nat.eq_zero_or_pos ((i + 1) % 32) with h1 | h1
          · exact .inl h1
          · have : (i + 1) / 32 = i / 32 := by omega
            rw [this]; exact .inr h0
      · rw [hz]
        refine ev_neg (by decide) ?_
        refine ev_neg (fun e => hne (Int.ofNat.inj e)) ?_
        refine ev_eq (Ev.now _) ?_
        rw [lw_eq (isLow_bit hm hz)]
    · have hi2 : i = 32 * l.length := by clear hm hd; omega
      refine ev_neg (by clear hm hd; omega) ?_
      refine ev_pos (by rw [hi2]) ?_
      refine ev_eq (Ev.now _) ?_
      rw [rlow_end h hi2 hm]; rfl
theorem ref_Low_ev {l : List Int} (h : Dg l) (hl : l.length < 1000000000) : Ev (fun k => cutplaneref01_Low.f k l) ((lw (V l) : Nat) : Int) := by
  unfold cutplaneref01_Low.f
  exact rlow_l0 h hl _ 0 (Nat.le_refl _) (by omega) (by rw [Nat.pow_zero, Nat.mod_one]) (.inl rfl)
theorem lw_mod {n k : Nat} (h : n ≠ 0) : k > lw n ↔ n % 2 ^ k ≠ 0 := by
  have := (lw_is h).mod (k := k)
  constructor
  · intro h1 h2; have := this.1 h2; omega
  · intro h1; rcases Nat.lt_or_ge (lw n) k with h2 | h2
    · exact h2
    · exact absurd (this.2 h2) h1
theorem ref_Down_is {a : List Int} (ha : Nm a) (la : a.length < 100000000) (n : Nat) (hn : n < 1000000000) : Ev (fun k => cutplaneref01_Down.f k a n) (D (V a / 2 ^ n), decide (V a % 2 ^ n ≠ 0)) := by
  unfold cutplaneref01_Down.f
  have hlt := lt_bl (V a)
  by_cases h : n ≥ bl (V a)
  · have hp : V a < 2 ^ n := Nat.lt_of_lt_of_le hlt (Nat.pow_le_pow_right (by omega) h)
    refine Ev.bind (ref_Len_ev ha (by omega)) ?_
    (repeat (first | (with_reducible refine ev_pos ?_ ?_; focus (first | omega | assumption | (simp; done) | (simp; omega))) | (with_reducible refine ev_neg ?_ ?_; focus (first | omega | assumption | (simp; done) | (simp; omega)))))
    refine ev_eq (Ev.now _) ?_
    rw [Nat.div_eq_of_lt hp, D_zero, Nat.mod_eq_of_lt hp]
    congr 1
    refine decide_eq_decide.2 ?_
    have := V_eq_zero ha
    have hl : a.length = 0 ↔ a = [] := List.length_eq_zero_iff
    constructor
    · intro h1 h2; have := hl.2 (this.1 h2); omega
    · intro h1
      rcases Nat.eq_zero_or_pos a.length with h3 | h3
      · exact absurd (this.2 (hl.1 h3)) h1
      · omega
  · have h0 : V a ≠ 0 := by
      intro h0; rw [h0, bl_zero] at h; omega
    refine Ev.bind (ref_Len_ev ha (by omega)) ?_
    (repeat (first | (with_reducible refine ev_pos ?_ ?_; focus (first | omega | assumption | (simp; done) | (simp; omega))) | (with_reducible refine ev_neg ?_ ?_; focus (first | omega | assumption | (simp; done) | (simp; omega)))))
    refine Ev.bind (ref_Low_ev ha.dg (by omega)) ?_
    (repeat (first | (with_reducible refine ev_pos ?_ ?_; focus (first | omega | assumption | (simp; done) | (simp; omega))) | (with_reducible refine ev_neg ?_ ?_; focus (first | omega | assumption | (simp; done) | (simp; omega)))))
    have hd : decide ((n : Int) > ((lw (V a) : Nat) : Int)) = decide (V a % 2 ^ n ≠ 0) := decide_eq_decide.2 (by rw [← lw_mod h0]; omega)
    rw [hd]
    simp only [t32 (n := n) (by omega), m32]
    have hbl := bl_list ha.dg
    have hq : n / 32 ≤ a.length := by omega
    have h1 := rdown_l0 a ha.dg (by omega) (decide (V a % 2 ^ n ≠ 0)) (s := n % 32) (by omega) (a.drop (n / 32)) [] (a.take (n / 32)) (by simp) (by simp; omega) Dg.nil
    rw [List.length_take, Nat.min_eq_left hq, List.nil_append, down_V ha.dg] at h1
    exact h1
def shiftR (v : Nat) (n : Int) : List Int × Bool × Int :=
  if v = 0 then ([], false, 0) else if n < -131072 then ([], true, 0) else if n < 0 then (D (v / 2 ^ (-n).toNat), decide (v % 2 ^ (-n).toNat ≠ 0), 0) else if n > 131072 - (bl v : Int) then ([], false, 3) else (D (v * 2 ^ n.toNat), false, 0)
theorem nat_Shift_ev {a : List Int} (ha : Nm a) (la : a.length ≤ 4096) (n : Int) : Ev (fun k => nat_Shift.f k a n) (shiftR (V a) n) := by
  unfold nat_Shift.f shiftR
  refine ev_bind (nat_May_eq ha.dg (by omega)) ?_
  rw [may_iff.2 ⟨la, ha⟩]
  (repeat (first | (with_reducible refine ev_pos ?_ ?_; focus (first | omega | assumption | (simp; done) | (simp; omega))) | (with_reducible refine ev_neg ?_ ?_; focus (first | omega | assumption | (simp; done) | (simp; omega)))))
  by_cases c : a = []
  · subst c
    (repeat (first | (with_reducible refine ev_pos ?_ ?_; focus (first | omega | assumption | (simp; done) | (simp; omega))) | (with_reducible refine ev_neg ?_ ?_; focus (first | omega | assumption | (simp; done) | (simp; omega)))))
    exact ev_eq (Ev.now _) (by simp)
  have h0 : V a ≠ 0 := fun h => c ((V_eq_zero ha).1 h)
  have hl : a.length ≠ 0 := fun h => c (List.eq_nil_of_length_eq_zero h)
  have hbl := bl_list ha.dg
  rw [if_neg h0]
  (repeat (first | (with_reducible refine ev_pos ?_ ?_; focus (first | omega | assumption | (simp; done) | (simp; omega))) | (with_reducible refine ev_neg ?_ ?_; focus (first | omega | assumption | (simp; done) | (simp; omega)))))
  by_cases h1 : n < -131072
  · rw [if_pos h1]; exact ev_pos h1 (Ev.now _)
  rw [if_neg h1]
  refine ev_neg h1 ?_
  by_cases h2 : n < 0
  · rw [if_pos h2]
    have e : wrap64 (-n) = (((-n).toNat : Nat) : Int) := by unfold wrap64; omega
    rw [e]
    clear e
    have hm : (-n).toNat ≤ 131072 := by omega
    generalize (-n).toNat = m at *
    refine ev_pos h2 ?_
    refine Ev.bind (nat_down_ev ha.dg (by omega) m (by omega)) ?_
    (repeat (first | (with_reducible refine ev_pos ?_ ?_; focus (first | omega | assumption | (simp; done) | (simp; omega))) | (with_reducible refine ev_neg ?_ ?_; focus (first | omega | assumption | (simp; done) | (simp; omega)))))
    refine Ev.bind (nat_Low_ev ha la) ?_
    (repeat (first | (with_reducible refine ev_pos ?_ ?_; focus (first | omega | assumption | (simp; done) | (simp; omega))) | (with_reducible refine ev_neg ?_ ?_; focus (first | omega | assumption | (simp; done) | (simp; omega)))))
    refine ev_eq (Ev.now _) ?_
    congr 2
    exact decide_eq_decide.2 (by rw [← lw_mod h0]; omega)
  · rw [if_neg h2]
    have e : wrap64 (131072 - ((bl (V a) : Nat) : Int)) = 131072 - ((bl (V a) : Nat) : Int) := by unfold wrap64; omega
    refine ev_neg h2 ?_
    refine Ev.bind (nat_Len_ev ha la) ?_
    (repeat (first | (with_reducible refine ev_pos ?_ ?_; focus (first | omega | assumption | (simp; done) | (simp; omega))) | (with_reducible refine ev_neg ?_ ?_; focus (first | omega | assumption | (simp; done) | (simp; omega)))))
    rw [e]
    clear e
    by_cases h3 : n > 131072 - ((bl (V a) : Nat) : Int)
    · rw [if_pos h3]; exact ev_pos h3 (Ev.now _)
    · rw [if_neg h3]
      obtain ⟨m, rfl⟩ := Int.eq_ofNat_of_zero_le (show 0 ≤ n by omega)
      refine ev_neg h3 ?_
      refine Ev.bind (nat_up_ev ha.dg (by omega) m (by omega)) ?_
      (repeat (first | (with_reducible refine ev_pos ?_ ?_; focus (first | omega | assumption | (simp; done) | (simp; omega))) | (with_reducible refine ev_neg ?_ ?_; focus (first | omega | assumption | (simp; done) | (simp; omega)))))
      refine ev_eq (Ev.now _) ?_
      rw [Int.toNat_natCast]
theorem len_bl {x k : Nat} (h : bl x ≤ 32 * k) : (D x).length ≤ k := by
  refine D_lt ?_
  have e : 4294967296 ^ k = 2 ^ (32 * k) := by rw [Nat.pow_mul]
  rw [e]
  exact Nat.lt_of_lt_of_le (lt_bl x) (Nat.pow_le_pow_right (by omega) h)
theorem bl_up_le (v m : Nat) : bl (v * 2 ^ m) ≤ bl v + m := by
  refine bl_le_of_lt ?_
  rw [Nat.pow_add]
  exact Nat.mul_lt_mul_of_pos_right (lt_bl v) (pw_pos m)
theorem bl_up {v : Nat} (h : v ≠ 0) (m : Nat) : bl (v * 2 ^ m) = bl v + m := by
  rw [bl_shift (n := v * 2 ^ m) (k := m) (Nat.le_mul_of_pos_left _ (by omega)), Nat.mul_div_cancel _ (pw_pos m), Nat.add_comm]
theorem bl_down (v m : Nat) : bl (v / 2 ^ m) = bl v - m := by
  rcases Nat.lt_or_ge v (2 ^ m) with h | h
  · rw [Nat.div_eq_of_lt h, bl_zero]
    have := bl_le_of_lt h
    omega
  · rw [bl_shift h]; omega
theorem shiftR_up {v m : Nat} (h : bl v + m ≤ 131072) : shiftR v (m : Int) = (D (v * 2 ^ m), false, 0) := by
  unfold shiftR
  by_cases hv : v = 0
  · rw [if_pos hv, hv, Nat.zero_mul, D_zero]
  · rw [if_neg hv, if_neg (by omega), if_neg (by omega), if_neg (by omega), Int.toNat_natCast]
theorem shiftR_down {v m : Nat} (h : bl v ≤ 131072) (hm : m ≤ 131072) : shiftR v (-(m : Int)) = (D (v / 2 ^ m), decide (v % 2 ^ m ≠ 0), 0) := by
  by_cases hv : v = 0
  · unfold shiftR
    rw [if_pos hv, hv, Nat.zero_div, Nat.zero_mod, D_zero]; rfl
  rcases Nat.eq_zero_or_pos m with h0 | h0
  · subst h0
    have e := shiftR_up (v := v) (m := 0) (by omega)
    rw [Nat.pow_zero, Nat.mul_one] at e
    rw [Nat.pow_zero, Nat.div_one, Nat.mod_one]
    exact e
  · unfold shiftR
    have e : (-(-(m : Int))).toNat = m := by omega
    rw [if_neg hv, if_neg (by omega), if_pos (by omega), e]
theorem len_succ {r L : Nat} (h : (D r).length ≤ L) : (D (r + 1)).length ≤ L + 1 := by
  refine D_lt ?_
  have h1 := lt_D_len r
  have h2 : 4294967296 ^ (D r).length ≤ 4294967296 ^ L := Nat.pow_le_pow_right (by omega) h
  rw [Nat.pow_succ]
  generalize 4294967296 ^ L = p at *
  omega
theorem sum_lt {q x Q X N : Nat} (hq : q < 4294967296 ^ Q) (hx : x < 4294967296 ^ X) (h1 : Q < N) (h2 : X < N) : q + x < 4294967296 ^ N := by
  obtain ⟨m, rfl⟩ := Nat.exists_eq_add_of_lt (show 0 < N by omega)
  have a : 4294967296 ^ Q ≤ 4294967296 ^ m := Nat.pow_le_pow_right (by omega) (by omega)
  have b : 4294967296 ^ X ≤ 4294967296 ^ m := Nat.pow_le_pow_right (by omega) (by omega)
  rw [Nat.zero_add, Nat.pow_succ]
  generalize 4294967296 ^ m = p at *
  omega
end Go.Proofs.YtbcjdlljmhfhdaaGreatDoor.Eng.K

/- Dyadic numbers: whole numbers times a power of two, in their one form; the reference's and the program's way to that form. -/
set_option linter.unusedVariables false
set_option linter.unusedSimpArgs false
namespace Go.Proofs.YtbcjdlljmhfhdaaGreatDoor.Eng.K
open Go.RowKit

/-- A size with a sign. -/
def sv (s : Bool) (n : Nat) : Int := if s = true then -(n : Int) else n
theorem sv_abs (s : Bool) (n : Nat) : (sv s n).natAbs = n := by unfold sv; split <;> simp
theorem sv_eq_zero {s : Bool} {n : Nat} : sv s n = 0 ↔ n = 0 := by unfold sv; split <;> omega
theorem sv_neg {s : Bool} {n : Nat} (h : n ≠ 0) : decide (sv s n < 0) = s := by
  unfold sv
  cases s
  · exact decide_eq_false (by simp)
  · exact decide_eq_true (by simp; omega)
theorem sv_zero (s : Bool) : sv s 0 = 0 := by unfold sv; split <;> rfl
/-- z times 2^e, in the one form: sign, digits (an odd number), exponent. -/
def mk (z e : Int) : Bool × List Int × Int := if z = 0 then (false, [], 0) else (decide (z < 0), D (z.natAbs / 2 ^ lw z.natAbs), e + (lw z.natAbs : Nat))
theorem mk_zero (e : Int) : mk 0 e = (false, [], 0) := rfl
theorem lw_up {n : Nat} (h : n ≠ 0) (k : Nat) : lw (n * 2 ^ k) = lw n + k := lw_eq (isLow_up (lw_is h))
theorem mk_up (z e : Int) (k : Nat) : mk (z * 2 ^ k) e = mk z (e + k) := by
  unfold mk
  by_cases h : z = 0
  · subst h; simp
  · have hp : (0 : Int) < 2 ^ k := Int.pow_pos (by omega)
    have h1 : z * 2 ^ k ≠ 0 := Int.mul_ne_zero h (by omega)
    have hn : z.natAbs ≠ 0 := by omega
    have h2 : (z * 2 ^ k).natAbs = z.natAbs * 2 ^ k := by rw [Int.natAbs_mul, Int.natAbs_pow]; rfl
    have h3 : decide (z * 2 ^ k < 0) = decide (z < 0) := decide_eq_decide.2 (by
      constructor
      · intro h4
        rcases (show z < 0 ∨ 0 ≤ z by omega) with h5 | h5
        · exact h5
        · have := Int.mul_nonneg h5 (Int.le_of_lt hp); omega
      · intro h4; exact Int.mul_neg_of_neg_of_pos h4 hp)
    rw [if_neg h, if_neg h1, h2, h3, lw_up hn]
    have h4 : z.natAbs * 2 ^ k / 2 ^ (lw z.natAbs + k) = z.natAbs / 2 ^ lw z.natAbs := by
      rw [Nat.pow_add]; exact Nat.mul_div_mul_right _ _ (pw_pos k)
    rw [h4]
    congr 2
    omega
/-- In its one form? -/
structure Dy (s : Bool) (l : List Int) (e : Int) : Prop where
  nm : Nm l
  none : l = [] → s = false ∧ e = 0
  odd : l ≠ [] → V l % 2 = 1
theorem lw_odd {n : Nat} (h : n % 2 = 1) : lw n = 0 := lw_eq ⟨n / 2, by rw [Nat.pow_zero, Nat.one_mul]; omega⟩
theorem mk_self {s : Bool} {l : List Int} {e : Int} (h : Dy s l e) : mk (sv s (V l)) e = (s, l, e) := by
  unfold mk
  by_cases c : l = []
  · obtain ⟨h1, h2⟩ := h.none c
    subst c; subst h1; subst h2
    rfl
  · have h1 := h.odd c
    have h0 : V l ≠ 0 := by omega
    rw [if_neg (fun h => h0 (sv_eq_zero.1 h)), sv_abs, sv_neg h0, lw_odd h1, Nat.pow_zero, Nat.div_one, h.nm]
    simp
theorem Dy_mk (z e : Int) : Dy (mk z e).1 (mk z e).2.1 (mk z e).2.2 := by
  unfold mk
  by_cases h : z = 0
  · rw [if_pos h]; exact ⟨Nm_nil, fun _ => ⟨rfl, rfl⟩, fun h => absurd rfl h⟩
  · rw [if_neg h]
    obtain ⟨m, hm⟩ := lw_is (n := z.natAbs) (by omega)
    have h1 : z.natAbs / 2 ^ lw z.natAbs = 2 * m + 1 := by
      have : z.natAbs / 2 ^ lw z.natAbs = 2 ^ lw z.natAbs * (2 * m + 1) / 2 ^ lw z.natAbs := by rw [← hm]
      rw [this, Nat.mul_div_cancel_left _ (pw_pos _)]
    have h2 : D (z.natAbs / 2 ^ lw z.natAbs) ≠ [] := by rw [h1, D_pos (by omega)]; simp
    exact ⟨Nm_D _, fun h => absurd h h2, fun _ => by show V (D _) % 2 = 1; rw [V_D, h1]; omega⟩
theorem mk_sv (s : Bool) {n : Nat} (h : n ≠ 0) (e : Int) : mk (sv s n) e = (s, D (n / 2 ^ lw n), e + (lw n : Nat)) := by
  unfold mk
  rw [if_neg (fun h2 => h (sv_eq_zero.1 h2)), sv_abs, sv_neg h]
theorem lw_lt {n : Nat} (h : n ≠ 0) : lw n < bl n := by
  have h1 := (lw_is h).le
  rcases Nat.lt_or_ge (lw n) (bl n) with h2 | h2
  · exact h2
  · have h3 := lt_bl n
    have h4 : 2 ^ bl n ≤ 2 ^ lw n := Nat.pow_le_pow_right (by omega) h2
    omega
theorem nil_len {l : List Int} : (l.length : Int) = 0 ↔ l = [] := by
  constructor
  · intro h; exact List.eq_nil_of_length_eq_zero (by omega)
  · intro h; rw [h]; rfl
theorem wexp {e : Int} {b : Nat} (h1 : -1000000000000000 ≤ e) (h2 : e ≤ 1000000000000000) (hb : b < 100000000000) : wrap64 (e + (b : Int)) = e + (b : Int) := by unfold wrap64; omega
theorem ref_Form_ev (s : Bool) {l : List Int} (hl : Nm l) (ll : l.length < 10000000) {e : Int} (h1 : -1000000000000000 ≤ e) (h2 : e ≤ 1000000000000000) : Ev (fun k => cutplaneref02_Form.f k s l e) (mk (sv s (V l)) e) := by
  unfold cutplaneref02_Form.f
  by_cases c : l = []
  · subst c
    (repeat (first | (with_reducible refine ev_pos ?_ ?_; focus (first | omega | assumption | (simp; done) | (simp; omega))) | (with_reducible refine ev_neg ?_ ?_; focus (first | omega | assumption | (simp; done) | (simp; omega)))))
    exact ev_eq (Ev.now _) (by rw [V_nil, sv_zero]; rfl)
  · have h0 : V l ≠ 0 := fun h => c ((V_eq_zero hl).1 h)
    have hb := bl_list hl.dg
    have hw := lw_lt h0
    refine ev_neg (fun h => c (nil_len.1 h)) ?_
    refine Ev.bind (ref_Low_ev hl.dg (by omega)) ?_
    (repeat (first | (with_reducible refine ev_pos ?_ ?_; focus (first | omega | assumption | (simp; done) | (simp; omega))) | (with_reducible refine ev_neg ?_ ?_; focus (first | omega | assumption | (simp; done) | (simp; omega)))))
    refine Ev.bind (ref_Down_is hl (by omega) (lw (V l)) (by omega)) ?_
    (repeat (first | (with_reducible refine ev_pos ?_ ?_; focus (first | omega | assumption | (simp; done) | (simp; omega))) | (with_reducible refine ev_neg ?_ ?_; focus (first | omega | assumption | (simp; done) | (simp; omega)))))
    refine ev_eq (Ev.now _) ?_
    rw [mk_sv s h0, wexp h1 h2 (by omega)]
/-- What Make answers: the one form, or that the exponent is too great. -/
def makeR (s : Bool) (n : Nat) (e : Int) : Bool × List Int × Int × Int :=
  if n = 0 then (false, [], 0, 0) else if e > 16777216 - (lw n : Nat) then (false, [], 0, 20) else if e < -16777216 - (lw n : Nat) then (false, [], 0, 20) else ((mk (sv s n) e).1, (mk (sv s n) e).2.1, (mk (sv s n) e).2.2, 0)
theorem dyad_Make_ev (s : Bool) {l : List Int} (hl : Nm l) (ll : l.length ≤ 4096) (e : Int) : Ev (fun k => dyad_Make.f k s l e) (makeR s (V l) e) := by
  unfold dyad_Make.f makeR
  refine ev_bind (nat_May_eq hl.dg (by omega)) ?_
  rw [may_iff.2 ⟨ll, hl⟩]
  (repeat (first | (with_reducible refine ev_pos ?_ ?_; focus (first | omega | assumption | (simp; done) | (simp; omega))) | (with_reducible refine ev_neg ?_ ?_; focus (first | omega | assumption | (simp; done) | (simp; omega)))))
  by_cases c : l = []
  · subst c
    (repeat (first | (with_reducible refine ev_pos ?_ ?_; focus (first | omega | assumption | (simp; done) | (simp; omega))) | (with_reducible refine ev_neg ?_ ?_; focus (first | omega | assumption | (simp; done) | (simp; omega)))))
    exact ev_eq (Ev.now _) (by rw [V_nil, if_pos rfl])
  · have h0 : V l ≠ 0 := fun h => c ((V_eq_zero hl).1 h)
    have hb := bl_list hl.dg
    have hw := lw_lt h0
    rw [if_neg h0]
    refine ev_neg (fun h => c (nil_len.1 h)) ?_
    refine Ev.bind (nat_Low_ev hl ll) ?_
    (repeat (first | (with_reducible refine ev_pos ?_ ?_; focus (first | omega | assumption | (simp; done) | (simp; omega))) | (with_reducible refine ev_neg ?_ ?_; focus (first | omega | assumption | (simp; done) | (simp; omega)))))
    have e1 : wrap64 (16777216 - ((lw (V l) : Nat) : Int)) = 16777216 - ((lw (V l) : Nat) : Int) := by unfold wrap64; omega
    have e2 : wrap64 (-16777216 - ((lw (V l) : Nat) : Int)) = -16777216 - ((lw (V l) : Nat) : Int) := by unfold wrap64; omega
    have e3 : wrap64 (-((lw (V l) : Nat) : Int)) = -((lw (V l) : Nat) : Int) := by unfold wrap64; omega
    rw [e1, e2, e3]
    clear e1 e2 e3
    by_cases h1 : e > 16777216 - ((lw (V l) : Nat) : Int)
    · rw [if_pos h1]; exact ev_pos h1 (Ev.now _)
    rw [if_neg h1]
    refine ev_neg h1 ?_
    by_cases h2 : e < -16777216 - ((lw (V l) : Nat) : Int)
    · rw [if_pos h2]; exact ev_pos h2 (Ev.now _)
    rw [if_neg h2]
    have hs := nat_Shift_ev hl ll (-((lw (V l) : Nat) : Int))
    rw [shiftR_down (by omega) (by omega)] at hs
    refine ev_neg h2 ?_
    refine Ev.bind hs ?_
    (repeat (first | (with_reducible refine ev_pos ?_ ?_; focus (first | omega | assumption | (simp; done) | (simp; omega))) | (with_reducible refine ev_neg ?_ ?_; focus (first | omega | assumption | (simp; done) | (simp; omega)))))
    refine ev_eq (Ev.now _) ?_
    rw [mk_sv s h0, wexp (by omega) (by omega) (by omega)]
end Go.Proofs.YtbcjdlljmhfhdaaGreatDoor.Eng.K

/- Dyadic numbers, the reference: signs, tops, sums, differences, products, which is above which. -/
set_option linter.unusedVariables false
set_option linter.unusedSimpArgs false
namespace Go.Proofs.YtbcjdlljmhfhdaaGreatDoor.Eng.K
open Go.RowKit

/-- z times 2^e, told in units of 2^m (m not above e). -/
def al (z e m : Int) : Int := z * 2 ^ (e - m).toNat
theorem mk_al {z e m : Int} (h : m ≤ e) : mk (al z e m) m = mk z e := by
  unfold al
  rw [mk_up]
  congr 1
  omega
theorem al_zero (e m : Int) : al 0 e m = 0 := by unfold al; rw [Int.zero_mul]
theorem al_al {z e m n : Int} (h1 : m ≤ e) (h2 : n ≤ m) : al (al z e m) m n = al z e n := by
  unfold al
  rw [Int.mul_assoc, ← Int.pow_add]
  congr 2
  omega
theorem al_add (x y e m : Int) : al (x + y) e m = al x e m + al y e m := by unfold al; rw [Int.add_mul]
theorem al_sv (s : Bool) (n : Nat) (e m : Int) : al (sv s n) e m = sv s (n * 2 ^ (e - m).toNat) := by
  unfold al sv
  split
  · rw [Int.neg_mul, Int.natCast_mul, Int.natCast_pow]; rfl
  · rw [Int.natCast_mul, Int.natCast_pow]; rfl
theorem sv_add (s : Bool) (x y : Nat) : sv s x + sv s y = sv s (x + y) := by unfold sv; split <;> omega
theorem sv_sub {s t : Bool} (h : s ≠ t) {x y : Nat} (hl : y ≤ x) : sv s x + sv t y = sv s (x - y) := by
  unfold sv
  cases s <;> cases t <;> simp at h ⊢ <;> omega
theorem sv_not (s : Bool) (n : Nat) : sv (!s) n = -sv s n := by unfold sv; cases s <;> simp
/-- A sum of two dyadic numbers. -/
def addD (za ea zb eb : Int) : Bool × List Int × Int := mk (al za ea (min ea eb) + al zb eb (min ea eb)) (min ea eb)
theorem addD_at {za ea zb eb m : Int} (h1 : m ≤ ea) (h2 : m ≤ eb) : mk (al za ea m + al zb eb m) m = addD za ea zb eb := by
  unfold addD
  have h3 : m ≤ min ea eb := by omega
  rw [← al_al (z := za) (e := ea) (m := min ea eb) (n := m) (by omega) h3, ← al_al (z := zb) (e := eb) (m := min ea eb) (n := m) (by omega) h3, ← al_add]
  exact mk_al h3
theorem addD_zero_left (ea zb eb : Int) : addD 0 ea zb eb = mk zb eb := by
  unfold addD; rw [al_zero, Int.zero_add]; exact mk_al (by omega)
theorem addD_zero_right (za ea eb : Int) : addD za ea 0 eb = mk za ea := by
  unfold addD; rw [al_zero, Int.add_zero]; exact mk_al (by omega)
theorem upl_len {l : List Int} (h : Dg l) {n : Nat} : (D (V l * 2 ^ n)).length ≤ l.length + n / 32 + 1 := by
  refine len_bl (Nat.le_trans (bl_up_le _ _) ?_)
  have := bl_list h
  omega
theorem wsubn {e m : Int} (h1 : -1000000000000000 ≤ e) (h2 : e ≤ 1000000000000000) (h3 : -1000000000000000 ≤ m) (h4 : m ≤ e) : wrap64 (e - m) = ((e - m).toNat : Int) := by unfold wrap64; omega
theorem radd_j0 {sa sb : Bool} {la lb : List Int} {ea eb m : Int} (na : Nm la) (nb : Nm lb) (ha : la.length ≤ 1000000) (hb : lb.length ≤ 1000000) (h1 : m ≤ ea) (h2 : m ≤ eb) (h3 : (ea - m).toNat ≤ 100000000) (h4 : (eb - m).toNat ≤ 100000000) (hm : -100000000000000 ≤ m) (hM : m ≤ 100000000000000) :
    Ev (fun k => cutplaneref02_Add.j2 k sa la ea sb lb eb false [] 0 m) (mk (al (sv sa (V la)) ea m + al (sv sb (V lb)) eb m) m) := by
  refine ev_step ?_
  simp only [cutplaneref02_Add.j2]
  rw [wsubn (e := ea) (by omega) (by omega) (by omega) h1, wsubn (e := eb) (by omega) (by omega) (by omega) h2]
  rw [al_sv, al_sv]
  generalize (ea - m).toNat = p at *
  generalize (eb - m).toNat = q at *
  have l1 := upl_len na.dg (n := p)
  have l2 := upl_len nb.dg (n := q)
  refine Ev.bind (ref_Up_ev na.dg (by omega) p (by omega)) ?_
  (repeat (first | (with_reducible refine ev_pos ?_ ?_; focus (first | omega | assumption | (simp; done) | (simp; omega))) | (with_reducible refine ev_neg ?_ ?_; focus (first | omega | assumption | (simp; done) | (simp; omega)))))
  refine Ev.bind (ref_Up_ev nb.dg (by omega) q (by omega)) ?_
  (repeat (first | (with_reducible refine ev_pos ?_ ?_; focus (first | omega | assumption | (simp; done) | (simp; omega))) | (with_reducible refine ev_neg ?_ ?_; focus (first | omega | assumption | (simp; done) | (simp; omega)))))
  generalize V la * 2 ^ p = x at *
  generalize V lb * 2 ^ q = y at *
  by_cases hs : sa = sb
  · subst hs
    have hadd := ref_Add_ev (Dg_D x) (Dg_D y) (by omega) (by omega)
    rw [V_D, V_D] at hadd
    have l3 : (D (x + y)).length ≤ la.length + lb.length + p / 32 + q / 32 + 3 := by
      refine D_lt ?_
      have h5 := lt_D_len x
      have h6 := lt_D_len y
      refine sum_lt (N := la.length + lb.length + p / 32 + q / 32 + 3) h5 h6 (by omega) (by omega)
    have hf := ref_Form_ev sa (Nm_D (x + y)) (by omega) (e := m) (by omega) (by omega)
    rw [V_D] at hf
    (repeat (first | (with_reducible refine ev_pos ?_ ?_; focus (first | omega | assumption | (simp; done) | (simp; omega))) | (with_reducible refine ev_neg ?_ ?_; focus (first | omega | assumption | (simp; done) | (simp; omega)))))
    refine Ev.bind hadd ?_
    (repeat (first | (with_reducible refine ev_pos ?_ ?_; focus (first | omega | assumption | (simp; done) | (simp; omega))) | (with_reducible refine ev_neg ?_ ?_; focus (first | omega | assumption | (simp; done) | (simp; omega)))))
    refine Ev.bind hf ?_
    (repeat (first | (with_reducible refine ev_pos ?_ ?_; focus (first | omega | assumption | (simp; done) | (simp; omega))) | (with_reducible refine ev_neg ?_ ?_; focus (first | omega | assumption | (simp; done) | (simp; omega)))))
    refine ev_eq (Ev.now _) ?_
    rw [sv_add]
  · refine ev_neg (by simpa using hs) ?_
    refine Ev.bind (ref_Cmp_ev (Nm_D x) (Nm_D y) (by omega)) ?_
    (repeat (first | (with_reducible refine ev_pos ?_ ?_; focus (first | omega | assumption | (simp; done) | (simp; omega))) | (with_reducible refine ev_neg ?_ ?_; focus (first | omega | assumption | (simp; done) | (simp; omega)))))
    rw [V_D, V_D]
    by_cases hc : y ≤ x
    · have hsub := ref_Sub_ev (Nm_D x) (Nm_D y) (by omega) (by rw [V_D, V_D]; exact hc)
      rw [V_D, V_D] at hsub
      have l3 : (D (x - y)).length ≤ (D x).length := D_len_mono (Nat.sub_le _ _)
      have hf := ref_Form_ev sa (Nm_D (x - y)) (by omega) (e := m) (by omega) (by omega)
      rw [V_D] at hf
      refine ev_pos (cmpN_ge.2 hc) ?_
      refine Ev.bind hsub ?_
      (repeat (first | (with_reducible refine ev_pos ?_ ?_; focus (first | omega | assumption | (simp; done) | (simp; omega))) | (with_reducible refine ev_neg ?_ ?_; focus (first | omega | assumption | (simp; done) | (simp; omega)))))
      refine Ev.bind hf ?_
      (repeat (first | (with_reducible refine ev_pos ?_ ?_; focus (first | omega | assumption | (simp; done) | (simp; omega))) | (with_reducible refine ev_neg ?_ ?_; focus (first | omega | assumption | (simp; done) | (simp; omega)))))
      refine ev_eq (Ev.now _) ?_
      rw [sv_sub hs hc]
    · have hsub := ref_Sub_ev (Nm_D y) (Nm_D x) (by omega) (by rw [V_D, V_D]; omega)
      rw [V_D, V_D] at hsub
      have l3 : (D (y - x)).length ≤ (D y).length := D_len_mono (Nat.sub_le _ _)
      have hf := ref_Form_ev sb (Nm_D (y - x)) (by omega) (e := m) (by omega) (by omega)
      rw [V_D] at hf
      refine ev_neg (fun h => hc (cmpN_ge.1 h)) ?_
      refine Ev.bind hsub ?_
      (repeat (first | (with_reducible refine ev_pos ?_ ?_; focus (first | omega | assumption | (simp; done) | (simp; omega))) | (with_reducible refine ev_neg ?_ ?_; focus (first | omega | assumption | (simp; done) | (simp; omega)))))
      refine Ev.bind hf ?_
      (repeat (first | (with_reducible refine ev_pos ?_ ?_; focus (first | omega | assumption | (simp; done) | (simp; omega))) | (with_reducible refine ev_neg ?_ ?_; focus (first | omega | assumption | (simp; done) | (simp; omega)))))
      refine ev_eq (Ev.now _) ?_
      rw [Int.add_comm, sv_sub (fun h => hs h.symm) (by omega)]
/-- Not far apart, not long, not far out. -/
structure Near (la : List Int) (ea : Int) (lb : List Int) (eb : Int) : Prop where
  a : la.length ≤ 1000000
  b : lb.length ≤ 1000000
  d : (ea - eb).natAbs ≤ 100000000
  e : -10000000000000 ≤ ea ∧ ea ≤ 10000000000000
theorem ref_Add2_ev {sa sb : Bool} {la lb : List Int} {ea eb : Int} (ha : Dy sa la ea) (hb : Dy sb lb eb) (h : Near la ea lb eb) : Ev (fun k => cutplaneref02_Add.f k sa la ea sb lb eb) (addD (sv sa (V la)) ea (sv sb (V lb)) eb) := by
  obtain ⟨h1, h2, h3, h4⟩ := h
  unfold cutplaneref02_Add.f
  by_cases c : la = []
  · subst c
    (repeat (first | (with_reducible refine ev_pos ?_ ?_; focus (first | omega | assumption | (simp; done) | (simp; omega))) | (with_reducible refine ev_neg ?_ ?_; focus (first | omega | assumption | (simp; done) | (simp; omega)))))
    refine ev_eq (Ev.now _) ?_
    rw [V_nil, sv_zero, addD_zero_left, mk_self hb]
  refine ev_neg (fun h => c (nil_len.1 h)) ?_
  by_cases c2 : lb = []
  · subst c2
    (repeat (first | (with_reducible refine ev_pos ?_ ?_; focus (first | omega | assumption | (simp; done) | (simp; omega))) | (with_reducible refine ev_neg ?_ ?_; focus (first | omega | assumption | (simp; done) | (simp; omega)))))
    refine ev_eq (Ev.now _) ?_
    rw [V_nil, sv_zero, addD_zero_right, mk_self ha]
  refine ev_neg (fun h => c2 (nil_len.1 h)) ?_
  by_cases c3 : eb < ea
  · refine ev_pos c3 ?_
    exact ev_eq (radd_j0 ha.nm hb.nm h1 h2 (by omega) (by omega) (by omega) (by omega) (by omega) (by omega)) (addD_at (by omega) (by omega))
  · refine ev_neg c3 ?_
    exact ev_eq (radd_j0 ha.nm hb.nm h1 h2 (by omega) (by omega) (by omega) (by omega) (by omega) (by omega)) (addD_at (by omega) (by omega))
theorem len_pos {l : List Int} (c : l ≠ []) : (l.length : Int) > 0 := by
  have := List.length_pos_iff.2 c
  omega
theorem ref_Neg2_eq {s : Bool} {l : List Int} {e : Int} (h : Dy s l e) : cutplaneref02_Neg.f s l e = some (mk (-(sv s (V l))) e) := by
  unfold cutplaneref02_Neg.f
  by_cases c : l = []
  · obtain ⟨h1, h2⟩ := h.none c
    subst c; subst h1; subst h2
    rfl
  · have hl := len_pos c
    have h1 := h.odd c
    have h0 : V l ≠ 0 := by omega
    rw [if_pos hl, ← sv_not, mk_sv _ h0, lw_odd h1, Nat.pow_zero, Nat.div_one, h.nm]
    simp
theorem mk_Near {z e : Int} : (mk z e).2.1 = D (z.natAbs / 2 ^ lw z.natAbs) := by
  unfold mk
  by_cases h : z = 0
  · subst h; rw [if_pos rfl]; simp [D_zero]
  · rw [if_neg h]
end Go.Proofs.YtbcjdlljmhfhdaaGreatDoor.Eng.K

/- Dyadic numbers, the reference: products, orders, floors, cuts, whole numbers. -/
set_option linter.unusedVariables false
set_option linter.unusedSimpArgs false
namespace Go.Proofs.YtbcjdlljmhfhdaaGreatDoor.Eng.K
open Go.RowKit

theorem sv_sign {s : Bool} {n : Nat} (h : n ≠ 0) : (sv s n).sign = if s = true then -1 else 1 := by
  unfold sv
  split
  · exact Int.sign_eq_neg_one_of_neg (by omega)
  · exact Int.sign_eq_one_of_pos (by omega)
theorem ref_Sign2_eq {s : Bool} {l : List Int} {e : Int} (h : Dy s l e) : cutplaneref02_Sign.f s l e = some (sv s (V l)).sign := by
  unfold cutplaneref02_Sign.f
  by_cases c : l = []
  · subst c
    rw [if_pos (nil_len.2 rfl), V_nil, sv_zero]; rfl
  · have h1 := h.odd c
    have h0 : V l ≠ 0 := by omega
    rw [if_neg (fun h => c (nil_len.1 h)), sv_sign h0]
    split <;> rfl
/-- The place above the highest bit. -/
def top (z e : Int) : Int := if z = 0 then 0 else e + (bl z.natAbs : Nat)
theorem ref_Top2_ev {s : Bool} {l : List Int} {e : Int} (h : Dy s l e) (hl : l.length ≤ 1000000) (h1 : -1000000000000000 ≤ e) (h2 : e ≤ 1000000000000000) : Ev (fun k => cutplaneref02_Top.f k s l e) (top (sv s (V l)) e) := by
  unfold cutplaneref02_Top.f top
  by_cases c : l = []
  · subst c
    (repeat (first | (with_reducible refine ev_pos ?_ ?_; focus (first | omega | assumption | (simp; done) | (simp; omega))) | (with_reducible refine ev_neg ?_ ?_; focus (first | omega | assumption | (simp; done) | (simp; omega)))))
    exact ev_eq (Ev.now _) (by rw [V_nil, sv_zero]; rfl)
  · have h3 := h.odd c
    have h0 : V l ≠ 0 := by omega
    have hb := bl_list h.nm.dg
    refine ev_neg (fun h => c (nil_len.1 h)) ?_
    refine Ev.bind (ref_Len_ev h.nm (by omega)) ?_
    (repeat (first | (with_reducible refine ev_pos ?_ ?_; focus (first | omega | assumption | (simp; done) | (simp; omega))) | (with_reducible refine ev_neg ?_ ?_; focus (first | omega | assumption | (simp; done) | (simp; omega)))))
    refine ev_eq (Ev.now _) ?_
    rw [if_neg (fun h => h0 (sv_eq_zero.1 h)), sv_abs, wexp h1 h2 (by omega)]
theorem ref_Sub2_ev {sa sb : Bool} {la lb : List Int} {ea eb : Int} (ha : Dy sa la ea) (hb : Dy sb lb eb) (h : Near la ea lb eb) : Ev (fun k => cutplaneref02_Sub.f k sa la ea sb lb eb) (addD (sv sa (V la)) ea (-(sv sb (V lb))) eb) := by
  unfold cutplaneref02_Sub.f
  have hn := Dy_mk (-(sv sb (V lb))) eb
  have e1 : mk (-(sv sb (V lb))) eb = ((mk (-(sv sb (V lb))) eb).1, (mk (-(sv sb (V lb))) eb).2.1, (mk (-(sv sb (V lb))) eb).2.2) := rfl
  have hv : (mk (-(sv sb (V lb))) eb).2.1 = lb ∧ sv (mk (-(sv sb (V lb))) eb).1 (V lb) = -(sv sb (V lb)) ∧ (mk (-(sv sb (V lb))) eb).2.2 = eb := by
    by_cases c : lb = []
    · obtain ⟨h1, h2⟩ := hb.none c
      subst c; subst h1; subst h2
      exact ⟨rfl, by rw [V_nil, sv_zero, sv_zero]; rfl, rfl⟩
    · have h3 := hb.odd c
      have h0 : V lb ≠ 0 := by omega
      rw [← sv_not, mk_sv _ h0, lw_odd h3, Nat.pow_zero, Nat.div_one, hb.nm]
      exact ⟨rfl, rfl, by simp⟩
  refine ev_bind (ref_Neg2_eq hb) ?_
  (repeat (first | (with_reducible refine ev_pos ?_ ?_; focus (first | omega | assumption | (simp; done) | (simp; omega))) | (with_reducible refine ev_neg ?_ ?_; focus (first | omega | assumption | (simp; done) | (simp; omega)))))
  rw [hv.1, hv.2.2] at hn
  have ha2 := ref_Add2_ev ha hn h
  rw [hv.2.1] at ha2
  simp only [hv.1, hv.2.2]
  refine Ev.bind ha2 ?_
  (repeat (first | (with_reducible refine ev_pos ?_ ?_; focus (first | omega | assumption | (simp; done) | (simp; omega))) | (with_reducible refine ev_neg ?_ ?_; focus (first | omega | assumption | (simp; done) | (simp; omega)))))
  exact Ev.now _
theorem ref_Shift2_eq {s : Bool} {l : List Int} {e n : Int} (h : Dy s l e) (h1 : -100000000000000 ≤ e) (h2 : e ≤ 100000000000000) (h3 : -100000000000000 ≤ n) (h4 : n ≤ 100000000000000) : cutplaneref02_Shift.f s l e n = some (mk (sv s (V l)) (e + n)) := by
  unfold cutplaneref02_Shift.f
  have ew : wrap64 (e + n) = e + n := by unfold wrap64; omega
  by_cases c : l = []
  · obtain ⟨h1, h2⟩ := h.none c
    subst c; subst h1; subst h2
    rw [if_neg (by simp), V_nil, sv_zero]; rfl
  · have h5 := h.odd c
    have h0 : V l ≠ 0 := by omega
    rw [if_pos (len_pos c), mk_sv _ h0, lw_odd h5, Nat.pow_zero, Nat.div_one, h.nm, ew]
    simp
theorem ref_Same2_ev (s : Bool) (l : List Int) (e : Int) (s' : Bool) (l' : List Int) (e' : Int) (hb : l.length < 4611686018427387904) : Ev (fun k => cutplaneref02_Same.f k s l e s' l' e') (decide ((s, l, e) = (s', l', e'))) := by
  unfold cutplaneref02_Same.f
  by_cases h1 : s = s'
  · by_cases h2 : e = e'
    · refine ev_pos (by simpa using h1) ?_
      refine ev_pos h2 ?_
      refine Ev.bind (ref_Same_ev l l' hb) ?_
      (repeat (first | (with_reducible refine ev_pos ?_ ?_; focus (first | omega | assumption | (simp; done) | (simp; omega))) | (with_reducible refine ev_neg ?_ ?_; focus (first | omega | assumption | (simp; done) | (simp; omega)))))
      refine ev_eq (Ev.now _) ?_
      exact decide_eq_decide.2 (by simp [h1, h2])
    · refine ev_pos (by simpa using h1) ?_
      refine ev_neg h2 ?_
      exact ev_eq (Ev.now _) (decide_eq_false (by simp [h2])).symm
  · refine ev_neg (by simpa using h1) ?_
    exact ev_eq (Ev.now _) (decide_eq_false (by simp [h1])).symm
end Go.Proofs.YtbcjdlljmhfhdaaGreatDoor.Eng.K

/- Dyadic numbers, the reference: which is above which, floors, cuts, whole numbers. -/
set_option linter.unusedVariables false
set_option linter.unusedSimpArgs false
namespace Go.Proofs.YtbcjdlljmhfhdaaGreatDoor.Eng.K
open Go.RowKit

theorem mk_sign (z e : Int) : (sv (mk z e).1 (V (mk z e).2.1)).sign = z.sign := by
  unfold mk
  by_cases h : z = 0
  · subst h; rfl
  · rw [if_neg h]
    have hn : z.natAbs ≠ 0 := by omega
    have h1 : V (D (z.natAbs / 2 ^ lw z.natAbs)) ≠ 0 := by
      rw [V_D]
      have h2 := (lw_is hn).le
      have := Nat.div_pos h2 (pw_pos _)
      omega
    show (sv (decide (z < 0)) (V (D (z.natAbs / 2 ^ lw z.natAbs)))).sign = z.sign
    rw [sv_sign h1]
    by_cases h3 : z < 0
    · rw [decide_eq_true h3, if_pos rfl, Int.sign_eq_neg_one_of_neg h3]
    · rw [decide_eq_false h3, if_neg (by simp), Int.sign_eq_one_of_pos (by omega)]
theorem pow_pos_int (k : Nat) : (0 : Int) < 2 ^ k := Int.pow_pos (by omega)
theorem al_sign (z e m : Int) : (al z e m).sign = z.sign := by
  unfold al
  rw [Int.sign_mul, Int.sign_eq_one_of_pos (pow_pos_int _), Int.mul_one]
theorem al_abs (z e m : Int) : (al z e m).natAbs = z.natAbs * 2 ^ (e - m).toNat := by
  unfold al
  rw [Int.natAbs_mul, Int.natAbs_pow]; rfl
theorem al_bl {z e m : Int} (h : z ≠ 0) (hm : m ≤ e) : ((bl (al z e m).natAbs : Nat) : Int) + m = top z e := by
  rw [al_abs, bl_up (by omega)]
  unfold top
  rw [if_neg h]
  omega
theorem lt_of_bl {x y : Nat} (h : bl x < bl y) : x < y := by
  rcases Nat.lt_or_ge x y with h1 | h1
  · exact h1
  · have := bl_mono h1; omega
/-- Which of two dyadic numbers is above the other: the sign of their difference. -/
def cmpD (za ea zb eb : Int) : Int := (al za ea (min ea eb) - al zb eb (min ea eb)).sign
theorem cmp_nat {a b : Int} : (a - b).sign = if a < b then -1 else if b < a then 1 else 0 := by
  split
  · exact Int.sign_eq_neg_one_of_neg (by omega)
  · split
    · exact Int.sign_eq_one_of_pos (by omega)
    · have : a - b = 0 := by omega
      rw [this]; rfl
theorem sgn_cases (z : Int) : (z < 0 ∧ z.sign = -1) ∨ (z = 0 ∧ z.sign = 0) ∨ (0 < z ∧ z.sign = 1) := by
  rcases Int.lt_trichotomy z 0 with h | h | h
  · exact .inl ⟨h, Int.sign_eq_neg_one_of_neg h⟩
  · exact .inr (.inl ⟨h, by rw [h]; rfl⟩)
  · exact .inr (.inr ⟨h, Int.sign_eq_one_of_pos h⟩)
/-- Whole numbers of unlike signs, or of like signs and unlike lengths. -/
theorem cmp_signs {a b : Int} (h : a.sign ≠ b.sign) : (a - b).sign = if a.sign < b.sign then -1 else 1 := by
  rw [cmp_nat]
  rcases sgn_cases a with ⟨h1, e1⟩ | ⟨h1, e1⟩ | ⟨h1, e1⟩ <;> rcases sgn_cases b with ⟨h2, e2⟩ | ⟨h2, e2⟩ | ⟨h2, e2⟩ <;> rw [e1, e2] at h ⊢ <;> first | exact absurd rfl h | (simp <;> omega)
theorem cmp_bl {a b : Int} (h : a.sign = b.sign) (h0 : a.sign ≠ 0) (hl : bl a.natAbs ≠ bl b.natAbs) : (a - b).sign = if (decide (bl a.natAbs < bl b.natAbs) == decide (a.sign > 0)) = true then -1 else 1 := by
  rw [cmp_nat]
  have hlt : bl a.natAbs < bl b.natAbs ∨ bl b.natAbs < bl a.natAbs := by omega
  have hn : a.natAbs ≠ b.natAbs := fun e => hl (by rw [e])
  rcases hlt with h1 | h1
  · have h2 := lt_of_bl h1
    rw [decide_eq_true h1]
    rcases sgn_cases a with ⟨h3, e1⟩ | ⟨h3, e1⟩ | ⟨h3, e1⟩
    · rw [e1] at h ⊢
      have : b < 0 := by rcases sgn_cases b with ⟨h4, e2⟩ | ⟨h4, e2⟩ | ⟨h4, e2⟩ <;> omega
      rw [if_neg (by omega), if_pos (by omega)]; rfl
    · exact absurd e1 h0
    · rw [e1] at h ⊢
      have : 0 < b := by rcases sgn_cases b with ⟨h4, e2⟩ | ⟨h4, e2⟩ | ⟨h4, e2⟩ <;> omega
      rw [if_pos (by omega)]; rfl
  · have h2 := lt_of_bl h1
    rw [decide_eq_false (by omega : ¬ bl a.natAbs < bl b.natAbs)]
    rcases sgn_cases a with ⟨h3, e1⟩ | ⟨h3, e1⟩ | ⟨h3, e1⟩
    · rw [e1] at h ⊢
      have : b < 0 := by rcases sgn_cases b with ⟨h4, e2⟩ | ⟨h4, e2⟩ | ⟨h4, e2⟩ <;> omega
      rw [if_pos (by omega)]; rfl
    · exact absurd e1 h0
    · rw [e1] at h ⊢
      have : 0 < b := by rcases sgn_cases b with ⟨h4, e2⟩ | ⟨h4, e2⟩ | ⟨h4, e2⟩ <;> omega
      rw [if_neg (by omega), if_pos (by omega)]; rfl
theorem cmpD_def (za ea zb eb : Int) : cmpD za ea zb eb = (al za ea (min ea eb) - al zb eb (min ea eb)).sign := rfl
theorem sign_ne {z : Int} (h : z.sign ≠ 0) : z ≠ 0 := fun e => h (by rw [e]; rfl)
theorem ref_Cmp2_ev {sa sb : Bool} {la lb : List Int} {ea eb : Int} (ha : Dy sa la ea) (hb : Dy sb lb eb) (h : Near la ea lb eb) : Ev (fun k => cutplaneref02_Cmp.f k sa la ea sb lb eb) (cmpD (sv sa (V la)) ea (sv sb (V lb)) eb) := by
  have hs := ref_Sub2_ev ha hb h
  obtain ⟨h1, h2, h3, h4⟩ := h
  have ta := ref_Top2_ev ha h1 (by omega) (by omega)
  have tb := ref_Top2_ev hb h2 (by omega) (by omega)
  unfold cutplaneref02_Cmp.f
  refine ev_bind (ref_Sign2_eq ha) ?_
  (repeat (first | (with_reducible refine ev_pos ?_ ?_; focus (first | omega | assumption | (simp; done) | (simp; omega))) | (with_reducible refine ev_neg ?_ ?_; focus (first | omega | assumption | (simp; done) | (simp; omega)))))
  refine ev_bind (ref_Sign2_eq hb) ?_
  (repeat (first | (with_reducible refine ev_pos ?_ ?_; focus (first | omega | assumption | (simp; done) | (simp; omega))) | (with_reducible refine ev_neg ?_ ?_; focus (first | omega | assumption | (simp; done) | (simp; omega)))))
  rw [cmpD_def]
  generalize hza : sv sa (V la) = za at *
  generalize hzb : sv sb (V lb) = zb at *
  have hm1 : min ea eb ≤ ea := by omega
  have hm2 : min ea eb ≤ eb := by omega
  by_cases c : za.sign = zb.sign
  · refine ev_neg (fun h => h c) ?_
    by_cases c0 : za.sign = 0
    · refine ev_pos c0 ?_
      refine ev_eq (Ev.now _) ?_
      have e1 : za = 0 := by rcases sgn_cases za with ⟨_, e⟩ | ⟨e, _⟩ | ⟨_, e⟩ <;> omega
      have e2 : zb = 0 := by rcases sgn_cases zb with ⟨_, e⟩ | ⟨e, _⟩ | ⟨_, e⟩ <;> omega
      rw [e1, e2, al_zero, al_zero]; rfl
    · refine ev_neg c0 ?_
      refine Ev.bind ta ?_
      (repeat (first | (with_reducible refine ev_pos ?_ ?_; focus (first | omega | assumption | (simp; done) | (simp; omega))) | (with_reducible refine ev_neg ?_ ?_; focus (first | omega | assumption | (simp; done) | (simp; omega)))))
      refine Ev.bind tb ?_
      (repeat (first | (with_reducible refine ev_pos ?_ ?_; focus (first | omega | assumption | (simp; done) | (simp; omega))) | (with_reducible refine ev_neg ?_ ?_; focus (first | omega | assumption | (simp; done) | (simp; omega)))))
      have ba := al_bl (sign_ne c0) hm1
      have bb := al_bl (z := zb) (sign_ne (by rw [← c]; exact c0)) hm2
      by_cases ct : top za ea = top zb eb
      · refine ev_neg (fun h => h ct) ?_
        refine Ev.bind hs ?_
        (repeat (first | (with_reducible refine ev_pos ?_ ?_; focus (first | omega | assumption | (simp; done) | (simp; omega))) | (with_reducible refine ev_neg ?_ ?_; focus (first | omega | assumption | (simp; done) | (simp; omega)))))
        have hd := Dy_mk (al za ea (min ea eb) + al (-zb) eb (min ea eb)) (min ea eb)
        have hg : addD za ea (-zb) eb = mk (al za ea (min ea eb) + al (-zb) eb (min ea eb)) (min ea eb) := rfl
        rw [hg]
        refine ev_bind (ref_Sign2_eq hd) ?_
        (repeat (first | (with_reducible refine ev_pos ?_ ?_; focus (first | omega | assumption | (simp; done) | (simp; omega))) | (with_reducible refine ev_neg ?_ ?_; focus (first | omega | assumption | (simp; done) | (simp; omega)))))
        refine ev_eq (Ev.now _) ?_
        rw [mk_sign]
        congr 1
        unfold al
        rw [Int.neg_mul]; rfl
      · refine ev_pos ct ?_
        refine Ev.bind ta ?_
        (repeat (first | (with_reducible refine ev_pos ?_ ?_; focus (first | omega | assumption | (simp; done) | (simp; omega))) | (with_reducible refine ev_neg ?_ ?_; focus (first | omega | assumption | (simp; done) | (simp; omega)))))
        refine Ev.bind tb ?_
        (repeat (first | (with_reducible refine ev_pos ?_ ?_; focus (first | omega | assumption | (simp; done) | (simp; omega))) | (with_reducible refine ev_neg ?_ ?_; focus (first | omega | assumption | (simp; done) | (simp; omega)))))
        have hne : bl (al za ea (min ea eb)).natAbs ≠ bl (al zb eb (min ea eb)).natAbs := fun e => ct (by rw [← ba, ← bb, e])
        have hc := cmp_bl (a := al za ea (min ea eb)) (b := al zb eb (min ea eb)) (by rw [al_sign, al_sign]; exact c) (by rw [al_sign]; exact c0) hne
        rw [al_sign] at hc
        have hd : decide (top za ea < top zb eb) = decide (bl (al za ea (min ea eb)).natAbs < bl (al zb eb (min ea eb)).natAbs) := decide_eq_decide.2 (by omega)
        rw [hc, hd]
        generalize decide (bl (al za ea (min ea eb)).natAbs < bl (al zb eb (min ea eb)).natAbs) = p
        generalize decide (za.sign > 0) = q
        by_cases cq : p = q
        · exact ev_pos cq (ev_eq (Ev.now _) (by rw [if_pos (beq_iff_eq.2 cq)]))
        · exact ev_neg cq (ev_eq (Ev.now _) (by rw [if_neg (fun h => cq (beq_iff_eq.1 h))]))
  · refine ev_pos c ?_
    have hc := cmp_signs (a := al za ea (min ea eb)) (b := al zb eb (min ea eb)) (by rw [al_sign, al_sign]; exact c)
    rw [al_sign, al_sign] at hc
    rw [hc]
    by_cases c1 : za.sign < zb.sign
    · refine ev_pos c1 ?_
      exact ev_eq (Ev.now _) (if_pos c1).symm
    · refine ev_neg c1 ?_
      exact ev_eq (Ev.now _) (if_neg c1).symm
end Go.Proofs.YtbcjdlljmhfhdaaGreatDoor.Eng.K

/- Dyadic numbers, the reference: floors, cuts, whole numbers. -/
set_option linter.unusedVariables false
set_option linter.unusedSimpArgs false
namespace Go.Proofs.YtbcjdlljmhfhdaaGreatDoor.Eng.K
open Go.RowKit

/-- The greatest whole number that is not above z 2^e. -/
def floorD (z e : Int) : Int := if 0 ≤ e then z * 2 ^ e.toNat else z / 2 ^ (-e).toNat
theorem floor_sv (s : Bool) (n k : Nat) : sv s n / 2 ^ k = sv s (n / 2 ^ k + if s = true ∧ n % 2 ^ k ≠ 0 then 1 else 0) := by
  have hp := pw_pos k
  have hc : (2 : Int) ^ k = ((2 ^ k : Nat) : Int) := by rw [Int.natCast_pow]; rfl
  unfold sv
  cases s
  · simp only [Bool.false_eq_true, if_false, false_and, Nat.add_zero]
    rw [hc]; rfl
  · simp only [if_true, true_and]
    rw [hc]
    generalize 2 ^ k = p at *
    have h1 := Nat.div_add_mod n p
    have h2 := Nat.mod_lt n hp
    by_cases hm : n % p = 0
    · rw [if_neg (by simp [hm]), Nat.add_zero]
      have h3 : n = p * (n / p) := by omega
      refine Int.ediv_eq_of_eq_mul_left (by omega) ?_
      rw [Int.neg_mul]
      congr 1
      have : ((n / p : Nat) : Int) * (p : Int) = ((n / p * p : Nat) : Int) := by rw [Int.natCast_mul]
      rw [this, Nat.mul_comm, ← h3]
    · rw [if_pos hm]
      have h4 : (-(n : Int)) = (p : Int) * (-((n / p + 1 : Nat) : Int)) + ((p - n % p : Nat) : Int) := by
        have h5 : (p : Int) * (-((n / p + 1 : Nat) : Int)) = -((p * (n / p) + p : Nat) : Int) := by
          rw [Int.mul_neg, ← Int.natCast_mul, Nat.mul_add, Nat.mul_one]
        rw [h5]
        omega
      rw [h4, Int.mul_add_ediv_left _ _ (by omega), Int.ediv_eq_zero_of_lt (by omega) (by omega), Int.add_zero]
theorem ref_Floor2_ev {s : Bool} {l : List Int} {e : Int} (h : Dy s l e) (hl : l.length ≤ 1000000) (h1 : -900000000 ≤ e) (h2 : e ≤ 900000000) : Ev (fun k => cutplaneref02_Floor.f k s l e) (mk (floorD (sv s (V l)) e) 0) := by
  unfold cutplaneref02_Floor.f floorD
  by_cases c : 0 ≤ e
  · refine ev_pos c ?_
    refine ev_eq (Ev.now _) ?_
    rw [if_pos c, mk_up, show (0 : Int) + (e.toNat : Int) = e by omega, mk_self h]
  · refine ev_neg c ?_
    rw [if_neg c]
    have ew : wrap64 (-e) = (((-e).toNat : Nat) : Int) := by unfold wrap64; omega
    rw [ew]
    clear ew
    have hn : (-e).toNat < 1000000000 := by omega
    generalize (-e).toNat = n at *
    refine Ev.bind (ref_Down_is h.nm (by omega) n hn) ?_
    (repeat (first | (with_reducible refine ev_pos ?_ ?_; focus (first | omega | assumption | (simp; done) | (simp; omega))) | (with_reducible refine ev_neg ?_ ?_; focus (first | omega | assumption | (simp; done) | (simp; omega)))))
    have hd : (D (V l / 2 ^ n)).length ≤ l.length := D_lt (Nat.lt_of_le_of_lt (Nat.div_le_self _ _) (V_lt h.nm.dg))
    have d1 : Dg [1] := Dg.cons (by omega) (by omega) Dg.nil
    have v1 : V [1] = 1 := by simp
    have hadd := ref_Add_ev (Dg_D (V l / 2 ^ n)) d1 (by omega) (by simp)
    rw [V_D, v1] at hadd
    have hl2 : (D (V l / 2 ^ n + 1)).length ≤ l.length + 1 := len_succ hd
    have f1 := ref_Form_ev s (Nm_D (V l / 2 ^ n + 1)) (by omega) (e := 0) (by omega) (by omega)
    have f0 := ref_Form_ev s (Nm_D (V l / 2 ^ n)) (by omega) (e := 0) (by omega) (by omega)
    rw [V_D] at f0 f1
    cases s
    · refine ev_neg (by simp) (Ev.bind f0 (ev_eq (Ev.now _) ?_))
      rw [floor_sv, if_neg (by simp)]; rfl
    · refine ev_pos rfl ?_
      by_cases hc : V l % 2 ^ n ≠ 0
      · refine ev_pos (decide_eq_true hc) (Ev.bind hadd (Ev.bind f1 (ev_eq (Ev.now _) ?_)))
        rw [floor_sv, if_pos ⟨rfl, hc⟩]
      · refine ev_neg (by rw [decide_eq_false hc]; simp) (Ev.bind f0 (ev_eq (Ev.now _) ?_))
        rw [floor_sv, if_neg (fun h => hc h.2)]; rfl
end Go.Proofs.YtbcjdlljmhfhdaaGreatDoor.Eng.K

/- Dyadic numbers, the program: what may be, whole numbers, signs, tops. -/
set_option linter.unusedVariables false
set_option linter.unusedSimpArgs false
namespace Go.Proofs.YtbcjdlljmhfhdaaGreatDoor.Eng.K
open Go.RowKit

theorem and_one32 (X : Nat) (hX : X < 4294967296) : Go.bits .and .u32 (X : Int) 1 = ((X % 2 : Nat) : Int) := by
  have h1 : (BitVec.ofInt 32 (X : Int)).toNat = X := by
    rw [BitVec.ofInt_natCast, BitVec.toNat_ofNat]; exact Nat.mod_eq_of_lt (by omega)
  show IntKind.u32.wrap ((BitVec.ofInt 32 (X : Int) &&& BitVec.ofInt 32 1).toNat : Int) = _
  have h2 : (BitVec.ofInt 32 (1 : Int)).toNat = 1 := by decide
  have h3 : ∀ n : Int, IntKind.u32.wrap n = n % 4294967296 := fun n => by simp [IntKind.wrap, IntKind.signed, IntKind.bits]
  rw [BitVec.toNat_and, h1, h2, h3, Nat.and_one_is_mod]
  omega
theorem low_digit {l : List Int} (h : Dg l) : Go.bits .and .u32 (rd l 0) 1 = ((V l % 2 : Nat) : Int) := by
  have h1 := h.getD 0
  have h2 := V_digit h 0
  rw [Nat.pow_zero, Nat.div_one] at h2
  have h3 : rd l 0 = l.getD 0 0 := rdn l 0
  rw [h3]
  obtain ⟨x, hx⟩ := Int.eq_ofNat_of_zero_le h1.1
  rw [hx] at h1 h2 ⊢
  rw [and_one32 x (by omega)]
  rw [Int.toNat_natCast] at h2
  omega
/-- A number that may be, in its one form. -/
structure My (s : Bool) (l : List Int) (e : Int) : Prop where
  dy : Dy s l e
  len : l.length ≤ 4096
  lo : -16777216 ≤ e
  hi : e ≤ 16777216
theorem dyad_May_true {s : Bool} {l : List Int} {e : Int} (h : My s l e) : dyad_May.f s l e = some true := by
  obtain ⟨hd, hl, h1, h2⟩ := h
  unfold dyad_May.f
  rw [nat_May_eq hd.nm.dg (by omega), Option.bind_some, may_iff.2 ⟨hl, hd.nm⟩, if_neg (by simp)]
  by_cases c : l = []
  · obtain ⟨h3, h4⟩ := hd.none c
    subst c; subst h3; subst h4
    rfl
  · have ho := hd.odd c
    rw [if_neg (fun h => c (nil_len.1 h)), if_pos (len_pos c), low_digit hd.nm.dg, if_pos (by omega)]
    unfold dyad_inside.f
    rw [if_pos h1, decide_eq_true h2]; rfl
theorem dyad_Sign_ev {s : Bool} {l : List Int} {e : Int} (h : My s l e) : Ev (fun k => dyad_Sign.f k s l e) (sv s (V l)).sign := by
  unfold dyad_Sign.f
  refine ev_bind (dyad_May_true h) ?_
  (repeat (first | (with_reducible refine ev_pos ?_ ?_; focus (first | omega | assumption | (simp; done) | (simp; omega))) | (with_reducible refine ev_neg ?_ ?_; focus (first | omega | assumption | (simp; done) | (simp; omega)))))
  refine ev_step ?_
  simp only [dyad_Sign.j0]
  by_cases c : l = []
  · subst c
    (repeat (first | (with_reducible refine ev_pos ?_ ?_; focus (first | omega | assumption | (simp; done) | (simp; omega))) | (with_reducible refine ev_neg ?_ ?_; focus (first | omega | assumption | (simp; done) | (simp; omega)))))
    exact ev_eq (Ev.now _) (by rw [V_nil, sv_zero]; rfl)
  · have h1 := h.dy.odd c
    have h0 : V l ≠ 0 := by omega
    refine ev_neg (by simpa using fun e => c e) ?_
    rw [sv_sign h0]
    by_cases hs : s = true
    · refine ev_pos hs ?_
      exact ev_eq (Ev.now _) (if_pos hs).symm
    · refine ev_neg hs ?_
      exact ev_eq (Ev.now _) (if_neg hs).symm
theorem makeR_ok {s : Bool} {n : Nat} {e : Int} (h1 : -16777216 ≤ e) (h2 : e + (bl n : Nat) ≤ 16777216) : makeR s n e = ((mk (sv s n) e).1, (mk (sv s n) e).2.1, (mk (sv s n) e).2.2, 0) := by
  unfold makeR
  by_cases h0 : n = 0
  · rw [if_pos h0, h0, sv_zero]; rfl
  · have := lw_lt h0
    rw [if_neg h0, if_neg (by omega), if_neg (by omega)]
theorem My_mk {z e : Int} (h1 : -16777216 ≤ e) (h2 : e + (bl z.natAbs : Nat) ≤ 16777216) (h3 : bl z.natAbs ≤ 131072) : My (mk z e).1 (mk z e).2.1 (mk z e).2.2 := by
  refine ⟨Dy_mk z e, ?_, ?_, ?_⟩
  · rw [mk_Near]
    refine len_bl ?_
    rw [bl_down]; omega
  · unfold mk
    by_cases h0 : z = 0
    · subst h0; rw [if_pos rfl]; decide
    · rw [if_neg h0]; show -16777216 ≤ e + ((lw z.natAbs : Nat) : Int); omega
  · unfold mk
    by_cases h0 : z = 0
    · subst h0; rw [if_pos rfl]; decide
    · have := lw_lt (n := z.natAbs) (by omega)
      rw [if_neg h0]; show e + ((lw z.natAbs : Nat) : Int) ≤ 16777216; omega
end Go.Proofs.YtbcjdlljmhfhdaaGreatDoor.Eng.K

/- Dyadic numbers, the program: sums, differences, products of numbers that are not too long. -/
set_option linter.unusedVariables false
set_option linter.unusedSimpArgs false
namespace Go.Proofs.YtbcjdlljmhfhdaaGreatDoor.Eng.K
open Go.RowKit

/-- A dyadic number with the answer's error (none). -/
def ok3 (d : Bool × List Int × Int) : Bool × List Int × Int × Int := (d.1, d.2.1, d.2.2, 0)
theorem makeR_ok3 {s : Bool} {n : Nat} {e : Int} (h1 : -16777216 ≤ e) (h2 : e + (bl n : Nat) ≤ 16777216) : makeR s n e = ok3 (mk (sv s n) e) := makeR_ok h1 h2
end Go.Proofs.YtbcjdlljmhfhdaaGreatDoor.Eng.K

/- Dyadic numbers, the program: differences, products, shifts, floors of numbers that are not too long. -/
set_option linter.unusedVariables false
set_option linter.unusedSimpArgs false
namespace Go.Proofs.YtbcjdlljmhfhdaaGreatDoor.Eng.K
open Go.RowKit

theorem Dy_neg {s : Bool} {l : List Int} {e : Int} (h : Dy s l e) : (mk (-(sv s (V l))) e).2.1 = l ∧ sv (mk (-(sv s (V l))) e).1 (V l) = -(sv s (V l)) ∧ (mk (-(sv s (V l))) e).2.2 = e := by
  by_cases c : l = []
  · obtain ⟨h1, h2⟩ := h.none c
    subst c; subst h1; subst h2
    exact ⟨rfl, by rw [V_nil, sv_zero, sv_zero]; rfl, rfl⟩
  · have h3 := h.odd c
    have h0 : V l ≠ 0 := by omega
    rw [← sv_not, mk_sv _ h0, lw_odd h3, Nat.pow_zero, Nat.div_one, h.nm]
    exact ⟨rfl, rfl, by simp⟩
end Go.Proofs.YtbcjdlljmhfhdaaGreatDoor.Eng.K

/- Dyadic numbers, the program: which is above which. -/
set_option linter.unusedVariables false
set_option linter.unusedSimpArgs false
namespace Go.Proofs.YtbcjdlljmhfhdaaGreatDoor.Eng.K
open Go.RowKit

theorem cmpD_at {za ea zb eb m : Int} (h1 : m ≤ ea) (h2 : m ≤ eb) : (al za ea m - al zb eb m).sign = cmpD za ea zb eb := by
  unfold cmpD
  have h3 : m ≤ min ea eb := by omega
  rw [← al_al (z := za) (e := ea) (m := min ea eb) (n := m) (by omega) h3, ← al_al (z := zb) (e := eb) (m := min ea eb) (n := m) (by omega) h3]
  generalize al za ea (min ea eb) = x
  generalize al zb eb (min ea eb) = y
  have e : al x (min ea eb) m - al y (min ea eb) m = al (x - y) (min ea eb) m := by unfold al; rw [Int.sub_mul]
  rw [e, al_sign]
end Go.Proofs.YtbcjdlljmhfhdaaGreatDoor.Eng.K

/- Words of both formats: their shapes, and their bits as numbers. -/
set_option linter.unusedVariables false
set_option linter.unusedSimpArgs false
namespace Go.Proofs.YtbcjdlljmhfhdaaGreatDoor.Eng.K
open Go.RowKit

theorem bv64 (n : Nat) (h : n < 18446744073709551616) : (BitVec.ofInt 64 (n : Int)).toNat = n := by
  rw [BitVec.ofInt_natCast, BitVec.toNat_ofNat]; exact Nat.mod_eq_of_lt (by omega)
theorem and64 (a b : Nat) (ha : a < 18446744073709551616) (hb : b < 18446744073709551616) : Go.bits .and .u64 (a : Int) (b : Int) = ((a &&& b : Nat) : Int) := by
  show IntKind.u64.wrap ((BitVec.ofInt 64 (a : Int) &&& BitVec.ofInt 64 (b : Int)).toNat : Int) = _
  have hx : a &&& b < 2 ^ 64 := Nat.and_lt_two_pow _ (by omega)
  rw [BitVec.toNat_and, bv64 a ha, bv64 b hb, u64m]
  omega
theorem or64 (a b : Nat) (ha : a < 18446744073709551616) (hb : b < 18446744073709551616) : Go.bits .or .u64 (a : Int) (b : Int) = ((a ||| b : Nat) : Int) := by
  show IntKind.u64.wrap ((BitVec.ofInt 64 (a : Int) ||| BitVec.ofInt 64 (b : Int)).toNat : Int) = _
  have hx : a ||| b < 2 ^ 64 := Nat.or_lt_two_pow (by omega) (by omega)
  rw [BitVec.toNat_or, bv64 a ha, bv64 b hb, u64m]
  omega
/-- The low bits. -/
theorem and_low (a k : Nat) (ha : a < 18446744073709551616) (hk : k ≤ 63) : Go.bits .and .u64 (a : Int) ((2 ^ k - 1 : Nat) : Int) = ((a % 2 ^ k : Nat) : Int) := by
  have h1 : 2 ^ k ≤ 2 ^ 63 := Nat.pow_le_pow_right (by omega) hk
  rw [and64 a _ ha (by omega), Nat.and_two_pow_sub_one_eq_mod]
/-- Bits that don't meet. -/
theorem or_sum (a b k : Nat) (hb : b < 2 ^ k) (h : a * 2 ^ k + b < 18446744073709551616) : Go.bits .or .u64 ((a * 2 ^ k : Nat) : Int) (b : Int) = ((a * 2 ^ k + b : Nat) : Int) := by
  rw [or64 _ _ (by omega) (by omega)]
  congr 1
  rw [Nat.mul_comm]
  exact (Nat.two_pow_add_eq_or_of_lt hb a).symm
theorem or_comm64 (a b : Nat) (ha : a < 18446744073709551616) (hb : b < 18446744073709551616) : Go.bits .or .u64 (a : Int) (b : Int) = Go.bits .or .u64 (b : Int) (a : Int) := by
  rw [or64 a b ha hb, or64 b a hb ha, Nat.or_comm]
end Go.Proofs.YtbcjdlljmhfhdaaGreatDoor.Eng.K

/- Words of both formats, the program: open, class, fields. -/
set_option linter.unusedVariables false
set_option linter.unusedSimpArgs false
namespace Go.Proofs.YtbcjdlljmhfhdaaGreatDoor.Eng.K
open Go.RowKit

/-- A format; its fraction's bits, its greatest exponent field, its sign's place. -/
def isF (f : Int) : Prop := f = 1 ∨ f = 2
def fb (f : Int) : Nat := if f = 1 then 23 else 52
def mo (f : Int) : Nat := if f = 1 then 255 else 2047
def sk (f : Int) : Nat := if f = 1 then 31 else 63
def sg (f : Int) : Nat := if f = 1 then 2147483648 else 9223372036854775808
theorem shapeOf_eq {f : Int} (h : isF f) : word_shapeOf.f f = some ((fb f : Int), (mo f : Int), (sg f : Int), true) := by
  rcases h with rfl | rfl <;> rfl
theorem word_open_nil {f : Int} (h : isF f) : Ev (fun k => word_open.f k f []) ((fb f : Int), (mo f : Int), (sg f : Int), 0) := by
  unfold word_open.f
  refine ev_bind (shapeOf_eq h) ?_
  (repeat (first | (with_reducible refine ev_pos ?_ ?_; focus (first | omega | assumption | (simp; done) | (simp; omega))) | (with_reducible refine ev_neg ?_ ?_; focus (first | omega | assumption | (simp; done) | (simp; omega)))))
  refine ev_step ?_
  simp only [word_open.l0]
  (repeat (first | (with_reducible refine ev_pos ?_ ?_; focus (first | omega | assumption | (simp; done) | (simp; omega))) | (with_reducible refine ev_neg ?_ ?_; focus (first | omega | assumption | (simp; done) | (simp; omega)))))
  exact Ev.now _
theorem sg_pos {f : Int} (h : isF f) : 0 < sg f ∧ 2 * sg f ≤ 18446744073709551616 := by rcases h with rfl | rfl <;> decide
theorem sg_pow {f : Int} (h : isF f) : sg f = 2 ^ sk f := by rcases h with rfl | rfl <;> decide
theorem shl_mo {f : Int} (h : isF f) : shl .u64 ((mo f : Nat) : Int) ((fb f : Nat) : Int) = ((mo f * 2 ^ fb f : Nat) : Int) := by
  rcases h with rfl | rfl <;> decide
theorem inf_eq {f : Int} (h : isF f) : word_shape_inf.f (fb f : Int) (mo f : Int) (sg f : Int) = some ((mo f * 2 ^ fb f : Nat) : Int) := by
  unfold word_shape_inf.f
  have hm : mo f < 10000 := by rcases h with rfl | rfl <;> decide
  rw [if_pos (by omega), u64 (by omega) (by omega), shl_mo h]
theorem one_shl {f : Int} (h : isF f) : shl .u64 1 ((fb f : Nat) : Int) = ((2 ^ fb f : Nat) : Int) := by rcases h with rfl | rfl <;> decide
end Go.Proofs.YtbcjdlljmhfhdaaGreatDoor.Eng.K

/- Words of both formats, the program: fields, values. -/
set_option linter.unusedVariables false
set_option linter.unusedSimpArgs false
namespace Go.Proofs.YtbcjdlljmhfhdaaGreatDoor.Eng.K
open Go.RowKit

theorem fb_le {f : Int} (h : isF f) : fb f ≤ 52 := by rcases h with rfl | rfl <;> decide
theorem pfb {f : Int} (h : isF f) : 2 ^ fb f ≤ 4503599627370496 := by rcases h with rfl | rfl <;> decide
theorem mo_le {f : Int} (h : isF f) : mo f ≤ 2047 := by rcases h with rfl | rfl <;> decide
/-- The least exponent. -/
def lo (f : Int) : Int := if f = 1 then -149 else -1074
theorem low_eq {f : Int} (h : isF f) : word_shape_low.f (fb f : Int) (mo f : Int) (sg f : Int) = some (lo f) := by
  unfold word_shape_low.f
  have e : wrap64 (Int.tdiv ((mo f : Nat) : Int) 2) = ((mo f / 2 : Nat) : Int) := by
    have := mo_le h
    exact w64n (by show (0 : Int) ≤ ((mo f / 2 : Nat) : Int); omega) (by show ((mo f / 2 : Nat) : Int) < _; omega)
  have hm := mo_le h
  have hb := fb_le h
  rw [e]
  have e2 : wrap64 (1 - ((mo f / 2 : Nat) : Int)) = 1 - ((mo f / 2 : Nat) : Int) := by unfold wrap64; omega
  rw [e2]
  have e3 : wrap64 (1 - ((mo f / 2 : Nat) : Int) - ((fb f : Nat) : Int)) = 1 - ((mo f / 2 : Nat) : Int) - ((fb f : Nat) : Int) := by unfold wrap64; omega
  rw [e3]
  rcases h with rfl | rfl <;> rfl
end Go.Proofs.YtbcjdlljmhfhdaaGreatDoor.Eng.K

/- The program's words of numbers, and its named words. -/
set_option linter.unusedVariables false
set_option linter.unusedSimpArgs false
namespace Go.Proofs.YtbcjdlljmhfhdaaGreatDoor.Eng.K
open Go.RowKit

/-- Bits of a finite number; finite numbers are below two to that. -/
def pr (f : Int) : Nat := if f = 1 then 24 else 53
def wd (f : Int) : Int := if f = 1 then 128 else 1024
def sgn (f : Int) (s : Bool) : Nat := if s = true then sg f else 0
/-- Where a word's unit lies; the word of a size, without its sign. -/
def unit (f : Int) (n : Nat) (e : Int) : Int := max (e + (bl n : Nat) - (pr f : Nat)) (lo f)
def enc (f : Int) (n : Nat) (e : Int) : Nat := (unit f n e - lo f).toNat * 2 ^ fb f + n * 2 ^ (e - unit f n e).toNat
theorem pr_eq {f : Int} (h : isF f) : pr f = fb f + 1 := by rcases h with rfl | rfl <;> rfl
theorem wd_eq {f : Int} (h : isF f) : wd f = ((mo f / 2 : Nat) : Int) + 1 := by rcases h with rfl | rfl <;> rfl
theorem lo_b {f : Int} (h : isF f) : -1074 ≤ lo f ∧ lo f ≤ -149 := by rcases h with rfl | rfl <;> decide
theorem wd_b {f : Int} (h : isF f) : 128 ≤ wd f ∧ wd f ≤ 1024 := by rcases h with rfl | rfl <;> decide
theorem fits_room {f : Int} (h : isF f) : wd f - (pr f : Nat) - lo f = ((mo f - 2 : Nat) : Int) := by rcases h with rfl | rfl <;> rfl
theorem mo_ge {f : Int} (h : isF f) : 255 ≤ mo f := by rcases h with rfl | rfl <;> decide
theorem unit_ge (f : Int) (n : Nat) (e : Int) : lo f ≤ unit f n e := by unfold unit; omega
theorem part_lt {f : Int} {n : Nat} {e : Int} (hn : bl n ≤ pr f) (he : lo f ≤ e) : n * 2 ^ (e - unit f n e).toNat < 2 ^ pr f := by
  have h1 := lt_bl n
  have h2 : n * 2 ^ (e - unit f n e).toNat < 2 ^ bl n * 2 ^ (e - unit f n e).toNat := Nat.mul_lt_mul_of_pos_right h1 (pw_pos _)
  rw [← Nat.pow_add] at h2
  exact Nat.lt_of_lt_of_le h2 (Nat.pow_le_pow_right (by omega) (by unfold unit; omega))
theorem unit_le {f : Int} {n : Nat} {e : Int} (hn : bl n ≤ pr f) (he : lo f ≤ e) : unit f n e ≤ e := by unfold unit; omega
theorem enc_lt {f : Int} (h : isF f) {n : Nat} {e : Int} (hn : bl n ≤ pr f) (he : lo f ≤ e) (hw : e + (bl n : Nat) ≤ wd f) : enc f n e < mo f * 2 ^ fb f ∧ (unit f n e - lo f).toNat ≤ mo f - 2 := by
  have h1 := part_lt hn he
  have h2 := fits_room h
  have h3 := mo_ge h
  have h4 : (unit f n e - lo f).toNat ≤ mo f - 2 := by unfold unit; omega
  refine ⟨?_, h4⟩
  unfold enc
  rw [pr_eq h, Nat.pow_succ] at h1
  have h5 : (unit f n e - lo f).toNat * 2 ^ fb f ≤ (mo f - 2) * 2 ^ fb f := Nat.mul_le_mul_right _ h4
  have h6 : (mo f - 2) * 2 ^ fb f + 2 ^ fb f * 2 = mo f * 2 ^ fb f := by
    rw [Nat.mul_comm (2 ^ fb f) 2, ← Nat.add_mul]; congr 1; omega
  omega
theorem inf_lt {f : Int} (h : isF f) : mo f * 2 ^ fb f + 2 ^ fb f = sg f := by rcases h with rfl | rfl <;> decide
theorem shl_u64 {X s : Nat} (h : X * 2 ^ s < 18446744073709551616) (hs : s ≤ 64) : shl .u64 (X : Int) (s : Int) = ((X * 2 ^ s : Nat) : Int) := by
  unfold shl
  have e : min (s : Int).toNat IntKind.u64.bits = s := by
    have : IntKind.u64.bits = 64 := rfl
    omega
  rw [e, pow_cast, ← Int.natCast_mul]
  exact u64 (by omega) (by omega)
theorem or_sign {f : Int} (h : isF f) {x : Nat} (hx : x < sg f) : Go.bits .or .u64 (x : Int) (sg f : Int) = ((x + sg f : Nat) : Int) := by
  have hp := sg_pos h
  rw [or_comm64 _ _ (by omega) (by omega)]
  have h1 := or_sum 1 x (sk f) (by rw [← sg_pow h]; exact hx) (by rw [← sg_pow h]; omega)
  rw [Nat.one_mul, ← sg_pow h] at h1
  rw [h1, Nat.add_comm]
theorem or_zero64 {x : Nat} (h : x < 18446744073709551616) : Go.bits .or .u64 0 (x : Int) = (x : Int) := by
  have := or64 0 x (by omega) h
  rw [Nat.zero_or] at this
  exact this
theorem join_eq {f : Int} (h : isF f) {x : Nat} (hx : x < sg f) (s : Bool) : word_shape_join.f (fb f : Int) (mo f : Int) (sg f : Int) s 0 (x : Int) = some ((x + sgn f s : Nat) : Int) := by
  have hp := sg_pos h
  have e0 : shl .u64 (IntKind.u64.wrap 0) ((fb f : Nat) : Int) = 0 := by rcases h with rfl | rfl <;> decide
  unfold word_shape_join.f sgn
  rw [if_pos (by omega), e0, or_zero64 (by omega)]
  cases s
  · rfl
  · rw [if_pos rfl, if_pos rfl, or_sign h hx]
theorem wsubx {a b : Int} (h1 : -100000000000 ≤ a) (h2 : a ≤ 100000000000) (h3 : -100000000000 ≤ b) (h4 : b ≤ 100000000000) : wrap64 (a - b) = a - b := by unfold wrap64; omega
theorem waddx {a b : Int} (h1 : -100000000000 ≤ a) (h2 : a ≤ 100000000000) (h3 : -100000000000 ≤ b) (h4 : b ≤ 100000000000) : wrap64 (a + b) = a + b := by unfold wrap64; omega
theorem numB_small {l : List Int} (h : Nm l) (hb : V l < 18446744073709551616) : numB l = true := by
  have h1 : l.length ≤ 2 := by
    have : (D (V l)).length ≤ 2 := D_len_lt (by omega)
    rwa [h] at this
  unfold numB
  rw [may_iff.2 ⟨by omega, h⟩, decide_eq_true h1]
  rfl
theorem two_fb {f : Int} (h : isF f) : 2 ^ pr f ≤ 9007199254740992 := by rcases h with rfl | rfl <;> decide
theorem unit_wrap {f : Int} (h : isF f) {n : Nat} {e : Int} (he : lo f ≤ e) (hw : e + (bl n : Nat) ≤ wd f) (hn : bl n ≤ 100) : mx (wrap64 (wrap64 (e + ((bl n : Nat) : Int) - ((fb f : Nat) : Int)) - 1)) (lo f) = unit f n e := by
  have hl := lo_b h
  have hwb := wd_b h
  have hpr := pr_eq h
  have hfb := fb_le h
  have e1 : wrap64 (e + ((bl n : Nat) : Int) - ((fb f : Nat) : Int)) = e + ((bl n : Nat) : Int) - ((fb f : Nat) : Int) := by unfold wrap64; omega
  have e2 : wrap64 (e + ((bl n : Nat) : Int) - ((fb f : Nat) : Int) - 1) = e + ((bl n : Nat) : Int) - ((fb f : Nat) : Int) - 1 := by unfold wrap64; omega
  rw [e1, e2, mx_eq]
  unfold unit
  omega
theorem part_sm {n k : Nat} (h : n ≠ 0) (hb : n * 2 ^ k < 18446744073709551616) : k ≤ 64 := by
  rcases Nat.lt_or_ge 64 k with c | c
  · have h1 : 2 ^ 64 ≤ 2 ^ k := Nat.pow_le_pow_right (by omega) (by omega)
    have h2 : 2 ^ k ≤ n * 2 ^ k := Nat.le_mul_of_pos_left _ (by omega)
    have h3 : (2 : Nat) ^ 64 = 18446744073709551616 := by decide
    omega
  · exact c
theorem word_Of_ev {f : Int} (h : isF f) {s : Bool} {l : List Int} {e : Int} (hd : My s l e) (h0 : l ≠ []) (hn : bl (V l) ≤ pr f) (he : lo f ≤ e) (hw : e + (bl (V l) : Nat) ≤ wd f) :
    Ev (fun k => word_Of.f k f s l e) (((enc f (V l) e + sgn f s : Nat) : Int), 0) := by
  have hV : V l ≠ 0 := fun c => h0 ((V_eq_zero hd.dy.nm).1 c)
  have hl := lo_b h
  have hwb := wd_b h
  have hpr := pr_eq h
  have hfb := fb_le h
  have h2 := two_fb h
  have hbig : V l < 2 ^ pr f := Nat.lt_of_lt_of_le (lt_bl _) (Nat.pow_le_pow_right (by omega) hn)
  have hnum := nat_Num_ev hd.dy.nm.dg (by have := hd.len; omega)
  rw [numB_small hd.dy.nm (by omega), if_pos rfl] at hnum
  obtain ⟨e1, e2⟩ := enc_lt h hn he hw
  have hil := inf_lt h
  have hsp := sg_pos h
  have hplt := part_lt hn he
  have hu := unit_le hn he
  have hul := unit_ge f (V l) e
  have hpf := pw_pos (fb f)
  have hub : unit f (V l) e ≤ 1100 := by omega
  have hA : (unit f (V l) e - lo f).toNat * 2 ^ fb f < 18446744073709551616 := by unfold enc at e1; omega
  have hB : V l * 2 ^ (e - unit f (V l) e).toNat < 18446744073709551616 := by omega
  have hsm : (e - unit f (V l) e).toNat ≤ 64 := by
    have := part_sm (n := V l) (k := (e - unit f (V l) e).toNat) (by omega) hB
    exact this
  have hE : enc f (V l) e < 18446744073709551616 := by omega
  have t7 : IntKind.u64.wrap (((unit f (V l) e - lo f).toNat * 2 ^ fb f + V l * 2 ^ (e - unit f (V l) e).toNat : Nat) : Int) = ((enc f (V l) e : Nat) : Int) := u64 (by omega) (by unfold enc at hE; omega)
  have t8 := u64 (n := (((unit f (V l) e - lo f).toNat : Nat) : Int)) (by omega) (by omega)
  have t9 := shl_u64 hA (by omega)
  have t10 := shl_u64 hB hsm
  have hj := join_eq h (x := enc f (V l) e) (by omega) s
  have hVi : ¬ ((V l : Nat) : Int) = 0 := by omega
  have c1 : ¬ ((bl (V l) : Nat) : Int) > ((fb f : Nat) : Int) + 1 := by omega
  have c2 : ¬ e < lo f := by omega
  have c3 : ¬ e + ((bl (V l) : Nat) : Int) > wd f := by omega
  have c4 : (0 : Int) ≤ (((e - unit f (V l) e).toNat : Nat) : Int) := by omega
  have c5 : (0 : Int) ≤ ((fb f : Nat) : Int) := by omega
  have hm := mo_le h
  have hL := len64_ev (x := ((V l : Nat) : Int)) ⟨by omega, by omega⟩
  rw [Int.toNat_natCast] at hL
  have t1 : wrap64 (e + ((bl (V l) : Nat) : Int)) = e + ((bl (V l) : Nat) : Int) := waddx (by omega) (by omega) (by omega) (by omega)
  have t2 : wrap64 (((fb f : Nat) : Int) + 1) = ((fb f : Nat) : Int) + 1 := by clear t1; exact waddx (by omega) (by omega) (by omega) (by omega)
  have t3 : wrap64 (wrap64 (Int.tdiv ((mo f : Nat) : Int) 2) + 1) = wd f := by
    clear t1 t2
    have e3 : wrap64 (Int.tdiv ((mo f : Nat) : Int) 2) = ((mo f / 2 : Nat) : Int) := w64n (by show (0 : Int) ≤ ((mo f / 2 : Nat) : Int); omega) (by show ((mo f / 2 : Nat) : Int) < _; omega)
    rw [e3, waddx (by clear e3; omega) (by clear e3; omega) (by clear e3; omega) (by clear e3; omega), wd_eq h]
  have t4 := unit_wrap h he hw (by clear t1 t2 t3; omega : bl (V l) ≤ 100)
  have t5 : wrap64 (e - unit f (V l) e) = (((e - unit f (V l) e).toNat : Nat) : Int) := by clear t1 t2 t3 t4; rw [wsubx (by omega) (by omega) (by omega) (by omega)]; omega
  have t6 : wrap64 (unit f (V l) e - lo f) = (((unit f (V l) e - lo f).toNat : Nat) : Int) := by clear t1 t2 t3 t4 t5; rw [wsubx (by omega) (by omega) (by omega) (by omega)]; omega
  have hN := dyad_May_true hd
  have hlow := low_eq h
  have hop := word_open_nil h
  clear e1 e2 hA hB hE hplt hbig h2 hil hsp hm hub hu hul he hw hn hpf hsm
  unfold word_Of.f
  refine Ev.bind (hop) ?_; try dsimp only
  refine ev_neg (fun h => h rfl) ?_
  refine ev_bind (hN) ?_; try dsimp only
  refine ev_neg (by simp) ?_
  refine Ev.bind (hnum) ?_; try dsimp only
  refine Ev.bind (hL) ?_; try dsimp only
  rw [t2]
  refine ev_neg (by simp) (ev_neg c1 (ev_pos hVi ?_))
  refine ev_bind (hlow) ?_; try dsimp only
  refine ev_neg c2 ?_
  rw [t3, t1]
  refine ev_neg c3 (ev_neg hVi ?_)
  refine ev_bind (hlow) ?_; try dsimp only
  rw [t4, t5]
  refine ev_pos c4 ?_
  refine ev_bind (hlow) ?_; try dsimp only
  refine ev_pos c5 ?_
  rw [t6, t8, t9, t10, ← Int.natCast_add, t7]
  refine ev_bind (hj) ?_; try dsimp only
  exact Ev.now _
/-! ### named words -/
theorem named_end {f : Int} (h : isF f) (s : Bool) {x : Nat} (hx : x < sg f) : Ev (fun _ => if s = true then (some (Go.bits .or .u64 (x : Int) (sg f : Int), (0 : Int))) else (some ((x : Int), 0))) (((x + sgn f s : Nat) : Int), 0) := by
  unfold sgn
  cases s
  · (repeat (first | (with_reducible refine ev_pos ?_ ?_; focus (first | omega | assumption | (simp; done) | (simp; omega))) | (with_reducible refine ev_neg ?_ ?_; focus (first | omega | assumption | (simp; done) | (simp; omega)))))
    exact Ev.now _
  · (repeat (first | (with_reducible refine ev_pos ?_ ?_; focus (first | omega | assumption | (simp; done) | (simp; omega))) | (with_reducible refine ev_neg ?_ ?_; focus (first | omega | assumption | (simp; done) | (simp; omega)))))
    rw [or_sign h hx, if_pos rfl]
    exact Ev.now _
theorem word_Zero_ev {f : Int} (h : isF f) (s : Bool) : Ev (fun k => word_Zero.f k f s) (((sgn f s : Nat) : Int), 0) := by
  have hp := sg_pos h
  have hn := named_end h s (x := 0) hp.1
  rw [Nat.zero_add] at hn
  unfold word_Zero.f word_named_word_Zero_1.f
  refine Ev.bind (a := (((sgn f s : Nat) : Int), 0)) ?_ (Ev.now _)
  refine Ev.bind (word_open_nil h) ?_; try dsimp only
  (repeat (first | (with_reducible refine ev_pos ?_ ?_; focus (first | omega | assumption | (simp; done) | (simp; omega))) | (with_reducible refine ev_neg ?_ ?_; focus (first | omega | assumption | (simp; done) | (simp; omega)))))
  exact ev_bind rfl hn
theorem word_Inf_ev {f : Int} (h : isF f) (s : Bool) : Ev (fun k => word_Inf.f k f s) (((mo f * 2 ^ fb f + sgn f s : Nat) : Int), 0) := by
  have hil := inf_lt h
  have hp := pw_pos (fb f)
  have hn := named_end h s (x := mo f * 2 ^ fb f) (by omega)
  unfold word_Inf.f word_named_word_shape_inf.f
  refine Ev.bind (a := (((mo f * 2 ^ fb f + sgn f s : Nat) : Int), 0)) ?_ (Ev.now _)
  refine Ev.bind (word_open_nil h) ?_; try dsimp only
  (repeat (first | (with_reducible refine ev_pos ?_ ?_; focus (first | omega | assumption | (simp; done) | (simp; omega))) | (with_reducible refine ev_neg ?_ ?_; focus (first | omega | assumption | (simp; done) | (simp; omega)))))
  exact ev_bind (inf_eq h) hn
theorem word_Greatest_ev {f : Int} (h : isF f) (s : Bool) : Ev (fun k => word_Greatest.f k f s) (((mo f * 2 ^ fb f - 1 + sgn f s : Nat) : Int), 0) := by
  have hil := inf_lt h
  have hp := pw_pos (fb f)
  have hsp := sg_pos h
  have hm := mo_ge h
  have hq : 1 ≤ mo f * 2 ^ fb f := Nat.mul_pos (by omega) hp
  have hl : word_Greatest_1.f ((fb f : Nat) : Int) ((mo f : Nat) : Int) ((sg f : Nat) : Int) = some ((mo f * 2 ^ fb f - 1 : Nat) : Int) := by
    unfold word_Greatest_1.f
    rw [inf_eq h, Option.bind_some, u64m]
    congr 1
    omega
  have hn := named_end h s (x := mo f * 2 ^ fb f - 1) (by omega)
  unfold word_Greatest.f word_named_word_Greatest_1.f
  refine Ev.bind (a := (((mo f * 2 ^ fb f - 1 + sgn f s : Nat) : Int), 0)) ?_ (Ev.now _)
  refine Ev.bind (word_open_nil h) ?_; try dsimp only
  (repeat (first | (with_reducible refine ev_pos ?_ ?_; focus (first | omega | assumption | (simp; done) | (simp; omega))) | (with_reducible refine ev_neg ?_ ?_; focus (first | omega | assumption | (simp; done) | (simp; omega)))))
  exact ev_bind hl hn
/-- The canonical NaN. -/
def nanW (f : Int) : Nat := mo f * 2 ^ fb f + 2 ^ (fb f - 1)
theorem word_None_ev {f : Int} (h : isF f) : Ev (fun k => word_None.f k f) (((nanW f : Nat) : Int), 0) := by
  have hl : word_shape_none.f ((fb f : Nat) : Int) ((mo f : Nat) : Int) ((sg f : Nat) : Int) = some ((nanW f : Nat) : Int) := by
    rcases h with rfl | rfl <;> decide +kernel
  unfold word_None.f word_named_word_shape_none.f
  refine Ev.bind (a := (((nanW f : Nat) : Int), 0)) ?_ (Ev.now _)
  refine Ev.bind (word_open_nil h) ?_; try dsimp only
  (repeat (first | (with_reducible refine ev_pos ?_ ?_; focus (first | omega | assumption | (simp; done) | (simp; omega))) | (with_reducible refine ev_neg ?_ ?_; focus (first | omega | assumption | (simp; done) | (simp; omega)))))
  refine ev_bind (hl) ?_; try dsimp only
  (repeat (first | (with_reducible refine ev_pos ?_ ?_; focus (first | omega | assumption | (simp; done) | (simp; omega))) | (with_reducible refine ev_neg ?_ ?_; focus (first | omega | assumption | (simp; done) | (simp; omega)))))
  exact Ev.now _
end Go.Proofs.YtbcjdlljmhfhdaaGreatDoor.Eng.K

/- Words of both formats, the reference: fields, class, named words, values. -/
set_option linter.unusedVariables false
set_option linter.unusedSimpArgs false
namespace Go.Proofs.YtbcjdlljmhfhdaaGreatDoor.Eng.K
open Go.RowKit

instance (f : Int) : Decidable (isF f) := inferInstanceAs (Decidable (f = 1 ∨ f = 2))
theorem rIs_eq (f : Int) : cutplaneref03_Is.f f = some (decide (isF f)) := by
  unfold cutplaneref03_Is.f isF
  by_cases h : f = 1
  · rw [if_pos h]; simp [h]
  · rw [if_neg h]; simp [h]
def isM (m : Int) : Prop := 1 ≤ m ∧ m ≤ 5
instance (m : Int) : Decidable (isM m) := inferInstanceAs (Decidable (1 ≤ m ∧ m ≤ 5))
theorem rIsM_eq (m : Int) : cutplaneref04_Is.f m = some (decide (isM m)) := by
  unfold cutplaneref04_Is.f isM
  by_cases h : m ≥ 1
  · rw [if_pos h]; simp [show 1 ≤ m from h]
  · rw [if_neg h]; simp [show ¬ 1 ≤ m from h]
theorem rSign_eq {f : Int} (h : isF f) : cutplaneref03_Sign.f f = some (sg f : Int) := by rcases h with rfl | rfl <;> rfl
theorem rFrac_eq {f : Int} (h : isF f) : cutplaneref03_Frac.f f = some (fb f : Int) := by rcases h with rfl | rfl <;> rfl
theorem rMost_eq {f : Int} (h : isF f) : cutplaneref03_Most.f f = some (mo f : Int) := by rcases h with rfl | rfl <;> rfl
theorem rLow_eq {f : Int} (h : isF f) : cutplaneref03_Low.f f = some (lo f) := by rcases h with rfl | rfl <;> rfl
theorem rWide_eq {f : Int} (h : isF f) : cutplaneref03_Wide.f f = some (wd f) := by rcases h with rfl | rfl <;> rfl
theorem rJoin_eq {f : Int} (h : isF f) (s : Bool) {q r : Nat} (hq : q * 2 ^ fb f + r < sg f) : cutplaneref03_Join.f f s (q : Int) (r : Int) = some ((q * 2 ^ fb f + r + sgn f s : Nat) : Int) := by
  have hp := sg_pos h
  have hpp := pw_pos (fb f)
  have h52 := fb_le h
  have hqq : q ≤ q * 2 ^ fb f := Nat.le_mul_of_pos_right _ hpp
  unfold cutplaneref03_Join.f sgn
  rw [rFrac_eq h, Option.bind_some, if_pos (by omega), rSign_eq h, u64 (n := (q : Int)) (by omega) (by omega), shl_u64 (by omega) (by omega), ← Int.natCast_add, u64 (n := ((q * 2 ^ fb f + r : Nat) : Int)) (by omega) (by omega)]
  cases s
  · rw [if_neg (by simp), if_neg (by simp)]; rfl
  · rw [if_pos rfl, if_pos rfl, Option.bind_some, ← Int.natCast_add, u64 (by omega) (by omega)]
theorem rNone_eq {f : Int} (h : isF f) : cutplaneref03_None.f f = some (nanW f : Int) := by
  rcases h with rfl | rfl <;> decide +kernel
theorem rInf_eq {f : Int} (h : isF f) (s : Bool) : cutplaneref03_Inf.f f s = some ((mo f * 2 ^ fb f + sgn f s : Nat) : Int) := by
  have hil := inf_lt h
  have hpp := pw_pos (fb f)
  unfold cutplaneref03_Inf.f
  rw [rMost_eq h, Option.bind_some]
  have := rJoin_eq h s (q := mo f) (r := 0) (by omega)
  rw [show ((0 : Nat) : Int) = 0 from rfl, Nat.add_zero] at this
  rw [this]; rfl
theorem rSigned_eq {f : Int} (h : isF f) (w : Nat) (s : Bool) : cutplaneref03_Signed.f f (w : Int) s = some ((w % sg f + sgn f s : Nat) : Int) := by
  have hp := sg_pos h
  have hz : w % sg f < sg f := Nat.mod_lt _ hp.1
  unfold cutplaneref03_Signed.f sgn
  rw [rSign_eq h, Option.bind_some, if_neg (by omega), tmod_n]
  cases s
  · rw [if_neg (by simp), if_neg (by simp)]; rfl
  · rw [if_pos rfl, if_pos rfl, Option.bind_some, ← Int.natCast_add, u64 (by omega) (by omega)]
end Go.Proofs.YtbcjdlljmhfhdaaGreatDoor.Eng.K

/- Dyadic numbers told as whole numbers times powers of two: what the operations make of such, the reference. -/
set_option linter.unusedVariables false
set_option linter.unusedSimpArgs false
namespace Go.Proofs.YtbcjdlljmhfhdaaGreatDoor.Eng.K
open Go.RowKit

def mz (z e : Int) : Int := sv (mk z e).1 (V (mk z e).2.1)
def me (z e : Int) : Int := (mk z e).2.2
theorem mz_zero (e : Int) : mz 0 e = 0 := rfl
theorem sv_self (z : Int) : sv (decide (z < 0)) z.natAbs = z := by
  unfold sv
  by_cases h : z < 0
  · rw [decide_eq_true h, if_pos rfl]; omega
  · rw [decide_eq_false h, if_neg (by simp)]; omega
theorem mk_val {z : Int} (h : z ≠ 0) (e : Int) : ∃ j : Nat, z = mz z e * 2 ^ j ∧ me z e = e + (j : Int) ∧ mz z e ≠ 0 ∧ bl (mz z e).natAbs + j = bl z.natAbs := by
  have hn : z.natAbs ≠ 0 := by omega
  have hw := lw_lt hn
  obtain ⟨q, hq⟩ := lw_is hn
  have hd : z.natAbs / 2 ^ lw z.natAbs = 2 * q + 1 := by
    have : z.natAbs / 2 ^ lw z.natAbs = 2 ^ lw z.natAbs * (2 * q + 1) / 2 ^ lw z.natAbs := by rw [← hq]
    rw [this, Nat.mul_div_cancel_left _ (pw_pos _)]
  have hm : mz z e = sv (decide (z < 0)) (z.natAbs / 2 ^ lw z.natAbs) := by
    unfold mz mk; rw [if_neg h]; show sv _ (V (D _)) = _; rw [V_D]
  have he : me z e = e + (lw z.natAbs : Nat) := by unfold me mk; rw [if_neg h]
  refine ⟨lw z.natAbs, ?_, he, ?_, ?_⟩
  · rw [hm, hd]
    have h1 : sv (decide (z < 0)) (2 * q + 1) * 2 ^ lw z.natAbs = sv (decide (z < 0)) ((2 * q + 1) * 2 ^ lw z.natAbs) := by
      unfold sv
      split
      · rw [Int.neg_mul, Int.natCast_mul, Int.natCast_pow]; rfl
      · rw [Int.natCast_mul, Int.natCast_pow]; rfl
    rw [h1, Nat.mul_comm, ← hq, sv_self]
  · rw [hm, hd]; intro h2; have := sv_eq_zero.1 h2; omega
  · rw [hm, sv_abs, bl_down]; omega
theorem mk_len (z e : Int) : (mk z e).2.1.length ≤ (bl z.natAbs + 31) / 32 := by
  rw [mk_Near]
  refine len_bl ?_
  rw [bl_down]; omega
theorem me_b (z e : Int) : me z e = 0 ∧ z = 0 ∨ e ≤ me z e ∧ me z e ≤ e + (bl z.natAbs : Nat) := by
  by_cases h : z = 0
  · exact .inl ⟨by rw [h]; rfl, h⟩
  · obtain ⟨j, _, h2, _, h4⟩ := mk_val h e
    exact .inr (by omega)
theorem al_mz {z : Int} (h : z ≠ 0) {e m : Int} (hm : m ≤ e) : al (mz z e) (me z e) m = al z e m := by
  obtain ⟨j, h1, h2, _, _⟩ := mk_val h e
  rw [h2]
  have h3 : al z e m = al (mz z e * 2 ^ j) e m := by rw [← h1]
  rw [h3]
  unfold al
  rw [Int.mul_assoc, ← Int.pow_add]
  congr 2
  omega
theorem mz_ne {z : Int} (h : z ≠ 0) (e : Int) : mz z e ≠ 0 := by obtain ⟨j, _, _, h3, _⟩ := mk_val h e; exact h3
theorem addD_comm (za ea zb eb : Int) : addD za ea zb eb = addD zb eb za ea := by
  unfold addD; rw [Int.add_comm, Int.min_comm]
theorem addD_mz (za ea zb eb : Int) : addD (mz za ea) (me za ea) zb eb = addD za ea zb eb := by
  by_cases h : za = 0
  · subst h; rw [mz_zero, addD_zero_left, addD_zero_left]
  · have hb := me_b za ea
    have h1 : ea ≤ me za ea := by omega
    rw [← addD_at (za := mz za ea) (m := min ea eb) (by omega) (by omega), al_mz h (by omega)]
    rfl
theorem addD_mz2 (za ea zb eb : Int) : addD za ea (mz zb eb) (me zb eb) = addD za ea zb eb := by
  rw [addD_comm, addD_mz, addD_comm]
theorem addD_same (a b e : Int) : addD a e b e = mk (a + b) e := by
  unfold addD al
  rw [Int.min_self, Int.sub_self]; simp
theorem cmpD_zero_left (ea zb eb : Int) : cmpD 0 ea zb eb = -zb.sign := by
  unfold cmpD
  rw [al_zero, Int.zero_sub, Int.sign_neg, al_sign]
theorem cmpD_comm (za ea zb eb : Int) : cmpD za ea zb eb = -cmpD zb eb za ea := by
  unfold cmpD
  rw [← Int.sign_neg, Int.neg_sub, Int.min_comm]
theorem cmpD_mz (za ea zb eb : Int) : cmpD (mz za ea) (me za ea) zb eb = cmpD za ea zb eb := by
  by_cases h : za = 0
  · subst h; rw [mz_zero, cmpD_zero_left, cmpD_zero_left]
  · have hb := me_b za ea
    have h1 : ea ≤ me za ea := by omega
    rw [← cmpD_at (za := mz za ea) (m := min ea eb) (by omega) (by omega), al_mz h (by omega)]
    rfl
theorem cmpD_mz2 (za ea zb eb : Int) : cmpD za ea (mz zb eb) (me zb eb) = cmpD za ea zb eb := by
  rw [cmpD_comm, cmpD_mz, ← cmpD_comm]
theorem cmpD_same (a b e : Int) : cmpD a e b e = (a - b).sign := by
  unfold cmpD al
  rw [Int.min_self, Int.sub_self]; simp
theorem floor_up (z : Int) (j k : Nat) : z * 2 ^ j / 2 ^ (j + k) = z / 2 ^ k := by
  rw [Int.pow_add, Int.mul_comm z, Int.mul_ediv_mul_of_pos _ _ (Int.pow_pos (by omega))]
theorem floorD_up (z e : Int) (j : Nat) : floorD z (e + j) = floorD (z * 2 ^ j) e := by
  unfold floorD
  by_cases h : 0 ≤ e
  · rw [if_pos (by omega), if_pos h, Int.mul_assoc, ← Int.pow_add]
    congr 2; omega
  · rw [if_neg h]
    by_cases h2 : 0 ≤ e + (j : Int)
    · rw [if_pos h2]
      have e1 : z * 2 ^ j = z * 2 ^ (e + (j : Int)).toNat * 2 ^ (-e).toNat := by
        rw [Int.mul_assoc, ← Int.pow_add]; congr 2; omega
      rw [e1, Int.mul_ediv_cancel _ (by have := Int.pow_pos (n := 2) (m := (-e).toNat) (by omega); omega)]
    · rw [if_neg h2]
      have e1 : (-e).toNat = j + (-(e + (j : Int))).toNat := by omega
      rw [e1, floor_up]
theorem floorD_mz (z e n : Int) : floorD (mz z e) (me z e + n) = floorD z (e + n) := by
  by_cases h : z = 0
  · subst h; rw [mz_zero]; unfold floorD; split <;> split <;> simp
  · obtain ⟨j, h1, h2, _, _⟩ := mk_val h e
    have h3 : floorD z (e + n) = floorD (mz z e * 2 ^ j) (e + n) := by rw [← h1]
    rw [h3, h2, ← floorD_up]
    congr 1; omega
theorem top_mz (z e : Int) : top (mz z e) (me z e) = top z e := by
  by_cases h : z = 0
  · subst h; rfl
  · obtain ⟨j, h1, h2, h3, h4⟩ := mk_val h e
    unfold top
    rw [if_neg h, if_neg h3, h2]; omega
/-- Not too long, not too far out, for the reference. -/
structure Rg (z e : Int) : Prop where
  b : bl z.natAbs ≤ 10000000
  lo : -40000000 ≤ e
  hi : e ≤ 40000000
theorem rg_near {za ea zb eb : Int} (ha : Rg za ea) (hb : Rg zb eb) : Near (mk za ea).2.1 (me za ea) (mk zb eb).2.1 (me zb eb) := by
  have a1 := mk_len za ea
  have b1 := mk_len zb eb
  have a2 := me_b za ea
  have b2 := me_b zb eb
  obtain ⟨h1, h2, h3⟩ := ha
  obtain ⟨h4, h5, h6⟩ := hb
  refine ⟨by omega, by omega, by omega, by omega⟩
theorem rAdd_mk {za ea zb eb : Int} (ha : Rg za ea) (hb : Rg zb eb) : Ev (fun k => cutplaneref02_Add.f k (mk za ea).1 (mk za ea).2.1 (mk za ea).2.2 (mk zb eb).1 (mk zb eb).2.1 (mk zb eb).2.2) (addD za ea zb eb) := by
  refine ev_eq (ref_Add2_ev (Dy_mk za ea) (Dy_mk zb eb) (rg_near ha hb)) ?_
  show addD (mz za ea) (me za ea) (mz zb eb) (me zb eb) = _
  rw [addD_mz, addD_mz2]
theorem mz_neg (z e : Int) : mz (-z) e = -mz z e ∧ me (-z) e = me z e := by
  by_cases h : z = 0
  · subst h; exact ⟨rfl, rfl⟩
  · have hv := Dy_neg (Dy_mk z e)
    have h1 : mk (-mz z e) (me z e) = mk (-z) e := by
      obtain ⟨j, h1, h2, h3, h4⟩ := mk_val h e
      have h5 : mk (-z) e = mk (-mz z e * 2 ^ j) e := by rw [Int.neg_mul, ← h1]
      rw [h5, mk_up, h2]
    have h2 : mk (-(sv (mk z e).1 (V (mk z e).2.1))) (mk z e).2.2 = mk (-z) e := h1
    rw [h2] at hv
    refine ⟨?_, hv.2.2⟩
    have h3 : mz (-z) e = sv (mk (-z) e).1 (V (mk z e).2.1) := by unfold mz; rw [hv.1]
    rw [h3, hv.2.1]; rfl
theorem rSub_mk {za ea zb eb : Int} (ha : Rg za ea) (hb : Rg zb eb) : Ev (fun k => cutplaneref02_Sub.f k (mk za ea).1 (mk za ea).2.1 (mk za ea).2.2 (mk zb eb).1 (mk zb eb).2.1 (mk zb eb).2.2) (addD za ea (-zb) eb) := by
  refine ev_eq (ref_Sub2_ev (Dy_mk za ea) (Dy_mk zb eb) (rg_near ha hb)) ?_
  show addD (mz za ea) (me za ea) (-mz zb eb) (me zb eb) = _
  rw [addD_mz, ← (mz_neg zb eb).1, ← (mz_neg zb eb).2, addD_mz2]
theorem rCmp_mk {za ea zb eb : Int} (ha : Rg za ea) (hb : Rg zb eb) : Ev (fun k => cutplaneref02_Cmp.f k (mk za ea).1 (mk za ea).2.1 (mk za ea).2.2 (mk zb eb).1 (mk zb eb).2.1 (mk zb eb).2.2) (cmpD za ea zb eb) := by
  refine ev_eq (ref_Cmp2_ev (Dy_mk za ea) (Dy_mk zb eb) (rg_near ha hb)) ?_
  show cmpD (mz za ea) (me za ea) (mz zb eb) (me zb eb) = _
  rw [cmpD_mz, cmpD_mz2]
theorem rSign_mk (z e : Int) : cutplaneref02_Sign.f (mk z e).1 (mk z e).2.1 (mk z e).2.2 = some z.sign := by
  rw [ref_Sign2_eq (Dy_mk z e), mk_sign]
theorem rTop_mk {z e : Int} (h : Rg z e) : Ev (fun k => cutplaneref02_Top.f k (mk z e).1 (mk z e).2.1 (mk z e).2.2) (top z e) := by
  have a1 := mk_len z e
  have a2 := me_b z e
  obtain ⟨h1, h2, h3⟩ := h
  have e1 : (mk z e).2.2 = me z e := rfl
  refine ev_eq (ref_Top2_ev (Dy_mk z e) (by omega) (by omega) (by omega)) ?_
  exact top_mz z e
theorem rShift_mk (z : Int) {e n : Int} (hb : bl z.natAbs ≤ 10000000000) (h1 : -10000000000000 ≤ e) (h2 : e ≤ 10000000000000) (h3 : -10000000000000 ≤ n) (h4 : n ≤ 10000000000000) : cutplaneref02_Shift.f (mk z e).1 (mk z e).2.1 (mk z e).2.2 n = some (mk z (e + n)) := by
  have a2 := me_b z e
  have e1 : (mk z e).2.2 = me z e := rfl
  rw [ref_Shift2_eq (Dy_mk z e) (by omega) (by omega) (by omega) (by omega)]
  congr 1
  show mk (mz z e) (me z e + n) = _
  by_cases c : z = 0
  · subst c; rfl
  · obtain ⟨j, p1, p2, _, _⟩ := mk_val c e
    have e3 : mk z (e + n) = mk (mz z e * 2 ^ j) (e + n) := by rw [← p1]
    rw [e3, mk_up, p2]
    congr 1; omega
theorem rFloor_mk {z e : Int} (hb : bl z.natAbs ≤ 20000000) (h1 : -800000000 ≤ e) (h2 : e ≤ 800000000) : Ev (fun k => cutplaneref02_Floor.f k (mk z e).1 (mk z e).2.1 (mk z e).2.2) (mk (floorD z e) 0) := by
  have a1 := mk_len z e
  have a2 := me_b z e
  have e1 : (mk z e).2.2 = me z e := rfl
  refine ev_eq (ref_Floor2_ev (Dy_mk z e) (by omega) (by omega) (by omega)) ?_
  show mk (floorD (mz z e) (me z e)) 0 = _
  have := floorD_mz z e 0
  rw [Int.add_zero, Int.add_zero] at this
  rw [this]
theorem rSame_mk (a e b e' : Int) (h : bl a.natAbs ≤ 1000000000) : Ev (fun k => cutplaneref02_Same.f k (mk a e).1 (mk a e).2.1 (mk a e).2.2 (mk b e').1 (mk b e').2.1 (mk b e').2.2) (decide (mk a e = mk b e')) := by
  have a1 := mk_len a e
  exact ref_Same2_ev _ _ _ _ _ _ (by omega)
theorem mk_inj {a b e : Int} (h : mk a e = mk b e) : a = b := by
  by_cases c : a = 0
  · by_cases c2 : b = 0
    · rw [c, c2]
    · exfalso
      have h1 := mz_ne c2 e
      have h2 : mz a e = mz b e := by unfold mz; rw [h]
      rw [c, mz_zero] at h2
      exact h1 h2.symm
  · by_cases c2 : b = 0
    · exfalso
      have h1 := mz_ne c e
      have h2 : mz a e = mz b e := by unfold mz; rw [h]
      rw [c2, mz_zero] at h2
      exact h1 h2
    · have h2 : mz a e = mz b e := by unfold mz; rw [h]
      have h3 : me a e = me b e := by unfold me; rw [h]
      obtain ⟨j, p1, p2, _, _⟩ := mk_val c e
      obtain ⟨i, q1, q2, _, _⟩ := mk_val c2 e
      have : j = i := by omega
      subst this
      rw [p1, q1, h2]
theorem mk_eq_iff {a b ea eb m : Int} (h1 : m ≤ ea) (h2 : m ≤ eb) : mk a ea = mk b eb ↔ al a ea m = al b eb m := by
  rw [← mk_al (z := a) h1, ← mk_al (z := b) h2]
  exact ⟨mk_inj, fun h => by rw [h]⟩
end Go.Proofs.YtbcjdlljmhfhdaaGreatDoor.Eng.K

/- Rounding: a size taken to a whole number of units; the reference's way to it. -/
set_option linter.unusedVariables false
set_option linter.unusedSimpArgs false
namespace Go.Proofs.YtbcjdlljmhfhdaaGreatDoor.Eng.K
open Go.RowKit

/-- Does a size go up? -/
def upB (m : Int) (s odd half more : Bool) : Bool :=
  if m = 1 then half && (more || odd) else if m = 2 then half else if m = 4 then !s && (half || more) else if m = 5 then s && (half || more) else false
/-- n in units of 2^k, rounded. -/
def rnd (m : Int) (s : Bool) (n k : Nat) : Nat :=
  n / 2 ^ k + (if upB m s (decide (n / 2 ^ k % 2 = 1)) (decide (2 ^ k ≤ 2 * (n % 2 ^ k))) (decide (2 * (n % 2 ^ k) % 2 ^ k ≠ 0)) = true then 1 else 0)
theorem rnd_exact {m : Int} {s : Bool} {n k : Nat} (h : n % 2 ^ k = 0) : rnd m s n k = n / 2 ^ k := by
  have hp := pw_pos k
  unfold rnd
  rw [h]
  have e1 : decide (2 ^ k ≤ 2 * 0) = false := decide_eq_false (by omega)
  have e2 : decide (2 * 0 % 2 ^ k ≠ 0) = false := decide_eq_false (by simp)
  rw [e1, e2]
  unfold upB
  simp
theorem rnd_zero (m : Int) (s : Bool) (n : Nat) : rnd m s n 0 = n := by
  rw [rnd_exact (by rw [Nat.pow_zero, Nat.mod_one]), Nat.pow_zero, Nat.div_one]
theorem rnd_up (m : Int) (s : Bool) (n k j : Nat) : rnd m s (n * 2 ^ j) (k + j) = rnd m s n k := by
  have hj := pw_pos j
  have hk := pw_pos k
  have e1 : n * 2 ^ j / 2 ^ (k + j) = n / 2 ^ k := by rw [Nat.pow_add, Nat.mul_div_mul_right _ _ hj]
  have e2 : n * 2 ^ j % 2 ^ (k + j) = n % 2 ^ k * 2 ^ j := by rw [Nat.pow_add, Nat.mul_mod_mul_right]
  unfold rnd
  rw [e1, e2]
  have e3 : decide (2 ^ (k + j) ≤ 2 * (n % 2 ^ k * 2 ^ j)) = decide (2 ^ k ≤ 2 * (n % 2 ^ k)) := decide_eq_decide.2 (by
    rw [Nat.pow_add, ← Nat.mul_assoc]
    exact ⟨fun h => Nat.le_of_mul_le_mul_right h hj, fun h => Nat.mul_le_mul_right _ h⟩)
  have e4 : decide (2 * (n % 2 ^ k * 2 ^ j) % 2 ^ (k + j) ≠ 0) = decide (2 * (n % 2 ^ k) % 2 ^ k ≠ 0) := decide_eq_decide.2 (by
    rw [Nat.pow_add, ← Nat.mul_assoc, Nat.mul_mod_mul_right]
    constructor
    · intro h h2; exact h (by rw [h2, Nat.zero_mul])
    · intro h h2
      rcases Nat.mul_eq_zero.1 h2 with h3 | h3
      · exact h h3
      · omega)
  rw [e3, e4]
/-- n 2^e in units of 2^E, rounded. -/
def R (m : Int) (s : Bool) (n : Nat) (e E : Int) : Nat := rnd m s (n * 2 ^ (e - E).toNat) (E - e).toNat
theorem R_up (m : Int) (s : Bool) (n : Nat) (e E : Int) (j : Nat) : R m s (n * 2 ^ j) e E = R m s n (e + j) E := by
  unfold R
  by_cases h : E ≤ e
  · have e1 : (E - e).toNat = 0 := by omega
    have e2 : (E - (e + (j : Int))).toNat = 0 := by omega
    rw [e1, e2, rnd_zero, rnd_zero, Nat.mul_assoc, ← Nat.pow_add]
    congr 2; omega
  · by_cases h2 : E ≤ e + (j : Int)
    · have e1 : (e - E).toNat = 0 := by omega
      have e2 : (E - (e + (j : Int))).toNat = 0 := by omega
      rw [e1, e2, rnd_zero, Nat.pow_zero, Nat.mul_one]
      have e3 : n * 2 ^ j = n * 2 ^ (e + (j : Int) - E).toNat * 2 ^ (E - e).toNat := by
        rw [Nat.mul_assoc, ← Nat.pow_add]; congr 2; omega
      rw [e3]
      have := rnd_up m s (n * 2 ^ (e + (j : Int) - E).toNat) 0 (E - e).toNat
      rw [Nat.zero_add, rnd_zero] at this
      exact this
    · have e1 : (e - E).toNat = 0 := by omega
      have e2 : (e + (j : Int) - E).toNat = 0 := by omega
      have e3 : (E - e).toNat = (E - (e + (j : Int))).toNat + j := by omega
      rw [e1, e2, e3, Nat.pow_zero, Nat.mul_one, Nat.mul_one, rnd_up]
/-- Is nothing lost? -/
def exR (n : Nat) (e E : Int) : Bool := decide (n % 2 ^ (E - e).toNat = 0)
theorem exR_up (n : Nat) (e E : Int) (j : Nat) : exR (n * 2 ^ j) e E = exR n (e + j) E := by
  unfold exR
  apply decide_eq_decide.2
  by_cases h2 : E ≤ e + (j : Int)
  · have e2 : (E - (e + (j : Int))).toNat = 0 := by omega
    rw [e2, Nat.pow_zero, Nat.mod_one]
    have e3 : n * 2 ^ j = n * 2 ^ (j - (E - e).toNat) * 2 ^ (E - e).toNat := by
      rw [Nat.mul_assoc, ← Nat.pow_add]; congr 2; omega
    rw [e3, Nat.mul_mod_left]
  · have e3 : (E - e).toNat = (E - (e + (j : Int))).toNat + j := by omega
    rw [e3, Nat.pow_add, Nat.mul_mod_mul_right]
    constructor
    · intro h
      rcases Nat.mul_eq_zero.1 h with h3 | h3
      · exact h3
      · have := pw_pos j; omega
    · intro h; rw [h, Nat.zero_mul]
theorem bl_succ (q : Nat) : bl (q + 1) ≤ bl q + 1 := by
  refine bl_le_of_lt ?_
  have := lt_bl q
  rw [Nat.pow_succ]
  have := pw_pos (bl q)
  omega
theorem R_bl {m : Int} {s : Bool} {n : Nat} {e E : Int} (hn : n ≠ 0) : (bl (R m s n e E) : Int) ≤ max 1 (e + (bl n : Nat) - E + 1) := by
  have h0 : rnd m s (n * 2 ^ (e - E).toNat) (E - e).toNat ≤ n * 2 ^ (e - E).toNat / 2 ^ (E - e).toNat + 1 := by unfold rnd; split <;> omega
  have h1 := bl_mono h0
  have h2 := bl_succ (n * 2 ^ (e - E).toNat / 2 ^ (E - e).toNat)
  rw [bl_down, bl_up hn] at h2
  unfold R
  by_cases c : E ≤ e
  · have e1 : (E - e).toNat = 0 := by omega
    rw [e1, rnd_zero, bl_up hn]; omega
  · omega
theorem R_mono_top {m : Int} {s : Bool} {n : Nat} {e E : Int} (hn : n ≠ 0) (h : E ≤ e + (bl n : Nat) - 1) : e + (bl n : Nat) ≤ (bl (R m s n e E) : Int) + E ∧ (bl (R m s n e E) : Int) + E ≤ e + (bl n : Nat) + 1 := by
  have h3 := R_bl (m := m) (s := s) (e := e) (E := E) hn
  refine ⟨?_, by omega⟩
  have h0 : n * 2 ^ (e - E).toNat / 2 ^ (E - e).toNat ≤ rnd m s (n * 2 ^ (e - E).toNat) (E - e).toNat := by unfold rnd; split <;> omega
  have h1 := bl_mono h0
  rw [bl_down, bl_up hn] at h1
  unfold R; omega
/-! ### the reference -/
/-- What is taken of z 2^e in units of 2^E. -/
def TK (m : Int) (z e E : Int) : Int := sv (decide (z < 0)) (R m (decide (z < 0)) z.natAbs e E)
theorem exR_iff {z e E : Int} : exR z.natAbs e E = true ↔ mk (floorD z (e - E)) E = mk z e := by
  unfold exR floorD
  rw [decide_eq_true_iff]
  by_cases c : E ≤ e
  · have e1 : (E - e).toNat = 0 := by omega
    rw [e1, Nat.pow_zero, Nat.mod_one, if_pos (by omega), mk_up, show E + ((e - E).toNat : Int) = e by omega]
    simp
  · rw [if_neg (by omega), show (-(e - E)).toNat = (E - e).toNat by omega]
    generalize hk : (E - e).toNat = k
    have hE : E = e + (k : Int) := by omega
    rw [hE, ← mk_up]
    constructor
    · intro h
      congr 1
      have h1 : (2 ^ k : Int) ∣ z := by
        have h2 : 2 ^ k ∣ z.natAbs := Nat.dvd_of_mod_eq_zero h
        have h3 : ((2 ^ k : Nat) : Int) ∣ z := Int.ofNat_dvd_left.2 h2
        rwa [Int.natCast_pow] at h3
      exact Int.ediv_mul_cancel h1
    · intro h
      have h1 := mk_inj h
      have h2 : (2 ^ k : Int) ∣ z := ⟨z / 2 ^ k, by rw [Int.mul_comm]; exact h1.symm⟩
      have h3 : ((2 ^ k : Nat) : Int) ∣ z := by rw [Int.natCast_pow]; exact h2
      exact Nat.mod_eq_zero_of_dvd (Int.ofNat_dvd_left.1 h3)
theorem TK_exact {m z e E : Int} (h : exR z.natAbs e E = true) : mk (TK m z e E) E = mk z e := by
  unfold TK R
  unfold exR at h
  have h := of_decide_eq_true h
  by_cases c : E ≤ e
  · have e1 : (E - e).toNat = 0 := by omega
    rw [e1, rnd_zero]
    have e2 : sv (decide (z < 0)) (z.natAbs * 2 ^ (e - E).toNat) = z * 2 ^ (e - E).toNat := by
      have := al_sv (decide (z < 0)) z.natAbs e E
      rw [sv_self] at this
      exact this.symm
    rw [e2, mk_up]; congr 1; omega
  · have e1 : (e - E).toNat = 0 := by omega
    rw [e1, Nat.pow_zero, Nat.mul_one, rnd_exact h]
    generalize hk : (E - e).toNat = k at *
    have hE : E = e + (k : Int) := by omega
    rw [hE, ← mk_up]
    congr 1
    have e2 : sv (decide (z < 0)) (z.natAbs / 2 ^ k) * 2 ^ k = sv (decide (z < 0)) (z.natAbs / 2 ^ k * 2 ^ k) := by
      unfold sv; split
      · rw [Int.neg_mul, Int.natCast_mul, Int.natCast_pow]; rfl
      · rw [Int.natCast_mul, Int.natCast_pow]; rfl
    rw [e2, Nat.div_mul_cancel (Nat.dvd_of_mod_eq_zero h), sv_self]
/-- What is taken when something is lost: the floor, or one more. -/
def pick (m : Int) (s : Bool) (F c : Int) : Int :=
  if m = 5 then F else if m = 4 then F + 1 else if m = 3 then (if s = true then F + 1 else F)
  else if c < 0 then F else if c > 0 then F + 1 else if m = 2 then (if s = true then F else F + 1) else if F % 2 = 0 then F else F + 1
theorem pick_pos (m : Int) (hm : isM m) (n k : Nat) (h : n % 2 ^ k ≠ 0) : pick m false ((n : Int) / 2 ^ k) (2 * ((n : Int) % 2 ^ k) - 2 ^ k).sign = (rnd m false n k : Int) := by
  have hp := pw_pos k
  have e0 : (2 : Int) ^ k = ((2 ^ k : Nat) : Int) := by rw [Int.natCast_pow]; rfl
  have hlt := Nat.mod_lt n hp
  rw [e0]
  have e1 : (n : Int) / ((2 ^ k : Nat) : Int) = ((n / 2 ^ k : Nat) : Int) := rfl
  have e2 : (n : Int) % ((2 ^ k : Nat) : Int) = ((n % 2 ^ k : Nat) : Int) := rfl
  rw [e1, e2]
  have e3 : decide (2 * (n % 2 ^ k) % 2 ^ k ≠ 0) = decide (2 * (n % 2 ^ k) ≠ 2 ^ k) := decide_eq_decide.2 (by
    generalize n % 2 ^ k = r at *
    generalize 2 ^ k = p at *
    by_cases c : 2 * r < p
    · rw [Nat.mod_eq_of_lt c]; omega
    · have : 2 * r % p = 2 * r - p := by
        rw [Nat.mod_eq_sub_mod (by omega), Nat.mod_eq_of_lt (by omega)]
      rw [this]; omega)
  unfold rnd
  rw [e3]
  generalize n % 2 ^ k = r at *
  generalize n / 2 ^ k = q at *
  generalize 2 ^ k = p at *
  unfold pick upB
  obtain ⟨m1, m2⟩ := hm
  have hm5 : m = 1 ∨ m = 2 ∨ m = 3 ∨ m = 4 ∨ m = 5 := by omega
  rcases Nat.lt_trichotomy (2 * r) p with c | c | c
  · have s1 : (2 * (r : Int) - (p : Int)).sign = -1 := Int.sign_eq_neg_one_of_neg (by omega)
    have d1 : decide (p ≤ 2 * r) = false := decide_eq_false (by omega)
    have d2 : decide (2 * r ≠ p) = true := decide_eq_true (by omega)
    rw [s1, d1, d2]
    rcases hm5 with rfl | rfl | rfl | rfl | rfl <;> simp
  · have s1 : (2 * (r : Int) - (p : Int)).sign = 0 := by
      have : 2 * (r : Int) - (p : Int) = 0 := by omega
      rw [this]; rfl
    have d1 : decide (p ≤ 2 * r) = true := decide_eq_true (by omega)
    have d2 : decide (2 * r ≠ p) = false := decide_eq_false (by omega)
    rw [s1, d1, d2]
    rcases hm5 with rfl | rfl | rfl | rfl | rfl <;> simp
    by_cases hq : q % 2 = 1
    · rw [if_neg (by omega)]; simp [hq]
    · rw [if_pos (by omega)]; simp [hq]
  · have s1 : (2 * (r : Int) - (p : Int)).sign = 1 := Int.sign_eq_one_of_pos (by omega)
    have d1 : decide (p ≤ 2 * r) = true := decide_eq_true (by omega)
    have d2 : decide (2 * r ≠ p) = true := decide_eq_true (by omega)
    rw [s1, d1, d2]
    rcases hm5 with rfl | rfl | rfl | rfl | rfl <;> simp
theorem pick_neg (m : Int) (hm : isM m) (n k : Nat) (h : n % 2 ^ k ≠ 0) : pick m true (-(n : Int) / 2 ^ k) (2 * (-(n : Int) % 2 ^ k) - 2 ^ k).sign = -(rnd m true n k : Int) := by
  have hp := pw_pos k
  have e0 : (2 : Int) ^ k = ((2 ^ k : Nat) : Int) := by rw [Int.natCast_pow]; rfl
  have hlt := Nat.mod_lt n hp
  have e1 := floor_sv true n k
  rw [if_pos ⟨rfl, h⟩] at e1
  have e1 : -(n : Int) / 2 ^ k = -((n / 2 ^ k + 1 : Nat) : Int) := e1
  have e2 : -(n : Int) % 2 ^ k = ((2 ^ k - n % 2 ^ k : Nat) : Int) := by
    have h1 := Int.mul_ediv_add_emod (-(n : Int)) (2 ^ k)
    rw [e1, e0] at h1
    have h2 := Nat.div_add_mod n (2 ^ k)
    rw [e0]
    rw [Int.mul_neg, ← Int.natCast_mul, Nat.mul_add, Nat.mul_one] at h1
    generalize -(n : Int) % ((2 ^ k : Nat) : Int) = y at *
    generalize 2 ^ k * (n / 2 ^ k) = w at *
    omega
  rw [e1, e2, e0]
  have e3 : decide (2 * (n % 2 ^ k) % 2 ^ k ≠ 0) = decide (2 * (n % 2 ^ k) ≠ 2 ^ k) := decide_eq_decide.2 (by
    generalize n % 2 ^ k = r at *
    generalize 2 ^ k = p at *
    by_cases c : 2 * r < p
    · rw [Nat.mod_eq_of_lt c]; omega
    · have : 2 * r % p = 2 * r - p := by
        rw [Nat.mod_eq_sub_mod (by omega), Nat.mod_eq_of_lt (by omega)]
      rw [this]; omega)
  unfold rnd
  rw [e3]
  clear e1 e2 e3
  generalize n % 2 ^ k = r at *
  generalize n / 2 ^ k = q at *
  generalize 2 ^ k = p at *
  unfold pick upB
  obtain ⟨m1, m2⟩ := hm
  have hm5 : m = 1 ∨ m = 2 ∨ m = 3 ∨ m = 4 ∨ m = 5 := by omega
  have hpr : ((p - r : Nat) : Int) = (p : Int) - (r : Int) := by omega
  rw [hpr]
  rcases Nat.lt_trichotomy (2 * r) p with c | c | c
  · have s1 : (2 * ((p : Int) - (r : Int)) - (p : Int)).sign = 1 := Int.sign_eq_one_of_pos (by omega)
    have d1 : decide (p ≤ 2 * r) = false := decide_eq_false (by omega)
    have d2 : decide (2 * r ≠ p) = true := decide_eq_true (by omega)
    rw [s1, d1, d2]
    rcases hm5 with rfl | rfl | rfl | rfl | rfl <;> simp <;> omega
  · have s1 : (2 * ((p : Int) - (r : Int)) - (p : Int)).sign = 0 := by
      have : 2 * ((p : Int) - (r : Int)) - (p : Int) = 0 := by omega
      rw [this]; rfl
    have d1 : decide (p ≤ 2 * r) = true := decide_eq_true (by omega)
    have d2 : decide (2 * r ≠ p) = false := decide_eq_false (by omega)
    rw [s1, d1, d2]
    rcases hm5 with rfl | rfl | rfl | rfl | rfl <;> simp <;> try omega
    by_cases hq : q % 2 = 1
    · rw [if_pos (by omega)]; simp [hq]
    · rw [if_neg (by omega)]; simp [hq]; omega
  · have s1 : (2 * ((p : Int) - (r : Int)) - (p : Int)).sign = -1 := Int.sign_eq_neg_one_of_neg (by omega)
    have d1 : decide (p ≤ 2 * r) = true := decide_eq_true (by omega)
    have d2 : decide (2 * r ≠ p) = true := decide_eq_true (by omega)
    rw [s1, d1, d2]
    rcases hm5 with rfl | rfl | rfl | rfl | rfl <;> simp <;> omega
theorem pick_TK {m : Int} (hm : isM m) {z e E : Int} (h : exR z.natAbs e E = false) : e < E ∧ pick m (decide (z < 0)) (floorD z (e - E)) (2 * (z % 2 ^ (E - e).toNat) - 2 ^ (E - e).toNat).sign = TK m z e E := by
  unfold exR at h
  have h := of_decide_eq_false h
  have c : e < E := by
    rcases Int.lt_or_le e E with c | c
    · exact c
    · exfalso
      have e1 : (E - e).toNat = 0 := by omega
      rw [e1, Nat.pow_zero, Nat.mod_one] at h
      exact h rfl
  refine ⟨c, ?_⟩
  unfold TK R floorD
  rw [if_neg (by omega), show (e - E).toNat = 0 by omega, show (-(e - E)).toNat = (E - e).toNat by omega, Nat.pow_zero, Nat.mul_one]
  generalize (E - e).toNat = k at *
  by_cases hz : z < 0
  · obtain ⟨n, rfl⟩ : ∃ n : Nat, z = -(n : Int) := ⟨z.natAbs, by omega⟩
    have e1 : (-(n : Int)).natAbs = n := by omega
    rw [e1] at h ⊢
    rw [decide_eq_true hz]
    show _ = -((rnd m true n k : Nat) : Int)
    exact pick_neg m hm n k h
  · obtain ⟨n, rfl⟩ : ∃ n : Nat, z = (n : Int) := ⟨z.natAbs, by omega⟩
    have e1 : ((n : Int)).natAbs = n := by omega
    rw [e1] at h ⊢
    rw [decide_eq_false hz]
    show _ = ((rnd m false n k : Nat) : Int)
    exact pick_pos m hm n k h
end Go.Proofs.YtbcjdlljmhfhdaaGreatDoor.Eng.K

/- Rounding, the reference: what is taken of a number; the word and the flags. -/
set_option linter.unusedVariables false
set_option linter.unusedSimpArgs false
namespace Go.Proofs.YtbcjdlljmhfhdaaGreatDoor.Eng.K
open Go.RowKit

theorem mk_one (e : Int) : mk 1 e = (false, [1], e) := by
  unfold mk
  have h : lw (1 : Int).natAbs = 0 := lw_odd rfl
  have hd : D 1 = [1] := by rw [D_pos (by omega)]; simp [D_zero]
  rw [if_neg (by omega), h]
  show (false, D (1 / 1), e + 0) = (false, ([1] : List Int), e)
  rw [Nat.div_one, hd, Int.add_zero]
theorem rTwo_eq (e : Int) : cutplaneref02_Two.f e = some (mk 1 e) := by
  unfold cutplaneref02_Two.f
  rw [mk_one]
theorem rhalf_mk {z e : Int} (hb : bl z.natAbs ≤ 10000000000) (h1 : -10000000000000 ≤ e) (h2 : e ≤ 10000000000000) : cutplaneref04_half.f (mk z e).1 (mk z e).2.1 (mk z e).2.2 = some (mk z (e + -1)) := by
  unfold cutplaneref04_half.f
  rw [rShift_mk z hb h1 h2 (by omega) (by omega)]
  rfl
theorem wneg64 {E : Int} (h1 : -1000000000 ≤ E) (h2 : E ≤ 1000000000) : wrap64 (-E) = -E := by unfold wrap64; omega
theorem floorD_bl {z e : Int} : bl (floorD z e).natAbs ≤ bl z.natAbs + 1 + e.toNat := by
  unfold floorD
  by_cases c : 0 ≤ e
  · rw [if_pos c, Int.natAbs_mul, Int.natAbs_pow]
    have := bl_up_le z.natAbs e.toNat
    exact Nat.le_trans this (by omega)
  · rw [if_neg c]
    have h1 := floor_sv (decide (z < 0)) z.natAbs (-e).toNat
    rw [sv_self] at h1
    rw [h1, sv_abs]
    have h2 : z.natAbs / 2 ^ (-e).toNat + (if decide (z < 0) = true ∧ z.natAbs % 2 ^ (-e).toNat ≠ 0 then 1 else 0) ≤ z.natAbs / 2 ^ (-e).toNat + 1 := by split <;> omega
    have h3 := bl_mono h2
    have h4 := bl_succ (z.natAbs / 2 ^ (-e).toNat)
    have h5 := bl_down z.natAbs (-e).toNat
    omega
theorem al_lift (z e : Int) (k : Nat) : al z (e + k) e = z * 2 ^ k := by
  unfold al; congr 2; omega
theorem al_self (z e : Int) : al z e e = z := by unfold al; rw [Int.sub_self]; simp
theorem addD_lift (a b e : Int) (k : Nat) : addD a e b (e + k) = mk (a + b * 2 ^ k) e := by
  rw [← addD_at (m := e) (by omega) (by omega), al_self, al_lift]
theorem pick_big (m : Int) (s : Bool) (F c : Int) : pick m s F c = if m = 5 then F else if m = 4 then F + 1 else if m = 3 then (if s = true then F + 1 else F) else if c < 0 then F else if c > 0 then F + 1 else if m = 2 then (if s = true then F else F + 1) else if F % 2 = 0 then F else F + 1 := rfl
theorem bl_half (F : Int) : bl (F / 2).natAbs ≤ bl F.natAbs + 1 := by
  have := floorD_bl (z := F) (e := -1)
  unfold floorD at this
  rw [if_neg (by omega)] at this
  exact this
theorem rTaken_j1 {m : Int} {z e E F B S : Int} {k : Nat} (hb : bl z.natAbs ≤ 9000000) (h1 : -4000000 ≤ e) (h2 : e ≤ 4000000) (h3 : -4000000 ≤ E) (h4 : E ≤ 4000000) (hE : E = e + k) (hF : F = z / 2 ^ k) (s : Bool) (hB : B = if s = true then F else F + 1) (hS : S = if s = true then F + 1 else F) (u : Bool) (v : List Int) (w : Int) :
    Ev (fun q => cutplaneref04_Taken.j1 q m E (mk z e).1 (mk z e).2.1 (mk z e).2.2 u v w (mk F E).1 (mk F E).2.1 (mk F E).2.2 (mk (F + 1) E).1 (mk (F + 1) E).2.1 (mk (F + 1) E).2.2 (mk B E).1 (mk B E).2.1 (mk B E).2.2 (mk S E).1 (mk S E).2.1 (mk S E).2.2) (mk (pick m s F (2 * (z % 2 ^ k) - 2 ^ k).sign) E) := by
  have hFb : bl F.natAbs ≤ bl z.natAbs + 1 := by
    rcases Nat.eq_zero_or_pos k with h | h
    · subst h; rw [hF, Int.pow_zero, Int.ediv_one]; omega
    · have := floorD_bl (z := z) (e := -(k : Int))
      unfold floorD at this
      rw [if_neg (by omega), show (-(-(k : Int))).toNat = k by omega, ← hF] at this
      omega
  have hF1 : bl (F + 1).natAbs ≤ bl z.natAbs + 2 := by
    have h5 : (F + 1).natAbs ≤ F.natAbs + 1 := by omega
    have h6 := bl_mono h5
    have h7 := bl_succ F.natAbs
    omega
  have rz : Rg z e := ⟨by omega, by omega, by omega⟩
  have rF : Rg F E := ⟨by omega, by omega, by omega⟩
  have rF1 : Rg (F + 1) E := ⟨by omega, by omega, by omega⟩
  have hdm := Int.mul_ediv_add_emod z (2 ^ k)
  rw [← hF] at hdm
  have hr0 : 0 ≤ z % 2 ^ k := Int.emod_nonneg _ (by have := pow_pos_int k; omega)
  have hr1 : z % 2 ^ k < 2 ^ k := Int.emod_lt_of_pos _ (pow_pos_int k)
  have ez : z + -F * 2 ^ k = z % 2 ^ k := by
    rw [Int.neg_mul, Int.mul_comm]; omega
  have ez2 : -z + (F + 1) * 2 ^ k = 2 ^ k - z % 2 ^ k := by
    rw [Int.add_mul, Int.one_mul, Int.mul_comm F]; omega
  have s1 := rSub_mk rz rF
  have s2 := rSub_mk rF1 rz
  have a1 : addD z e (-F) E = mk (z % 2 ^ k) e := by rw [hE, addD_lift, ez]
  have a2 : addD (F + 1) E (-z) e = mk (2 ^ k - z % 2 ^ k) e := by rw [addD_comm, hE, addD_lift, ez2]
  rw [a1] at s1
  rw [a2] at s2
  clear ez ez2 a1 a2
  have kb : k ≤ 8000000 := by omega
  refine ev_step ?_
  simp only [cutplaneref04_Taken.j1]
  rw [pick_big]
  by_cases c5 : m = 5
  · rw [if_pos c5]; exact ev_pos c5 (Ev.now _)
  rw [if_neg c5]
  refine ev_neg c5 ?_
  by_cases c4 : m = 4
  · rw [if_pos c4]; exact ev_pos c4 (Ev.now _)
  rw [if_neg c4]
  refine ev_neg c4 ?_
  by_cases c3 : m = 3
  · rw [if_pos c3, ← hS]; exact ev_pos c3 (Ev.now _)
  rw [if_neg c3]
  refine ev_neg c3 ?_
  refine Ev.bind (s1) ?_; try dsimp only
  refine Ev.bind (s2) ?_; try dsimp only
  -- the rest is short enough when something is behind the unit
  have rr : ∀ x : Int, 0 ≤ x → x ≤ 2 ^ k → bl x.natAbs ≤ k + 1 := by
    intro x hx hx2
    have h5 : x.natAbs ≤ 2 ^ k := by
      have h6 : ((2 ^ k : Nat) : Int) = 2 ^ k := by rw [Int.natCast_pow]; rfl
      omega
    refine bl_le_of_lt (Nat.lt_of_le_of_lt h5 ?_)
    rw [Nat.pow_succ]
    have := pw_pos k
    omega
  have x1 := rr (z % 2 ^ k) hr0 (by omega)
  have x2 := rr (2 ^ k - z % 2 ^ k) (by omega) (by omega)
  have cc := rCmp_mk (za := z % 2 ^ k) (ea := e) (zb := 2 ^ k - z % 2 ^ k) (eb := e) ⟨by omega, by omega, by omega⟩ ⟨by omega, by omega, by omega⟩
  have ec : cmpD (z % 2 ^ k) e (2 ^ k - z % 2 ^ k) e = (2 * (z % 2 ^ k) - 2 ^ k).sign := by
    rw [cmpD_same]; congr 1; omega
  rw [ec] at cc
  refine Ev.bind (cc) ?_; try dsimp only
  by_cases c0 : (2 * (z % 2 ^ k) - 2 ^ k).sign < 0
  · rw [if_pos c0]; exact ev_pos c0 (Ev.now _)
  rw [if_neg c0]
  refine ev_neg c0 ?_
  by_cases c1 : (2 * (z % 2 ^ k) - 2 ^ k).sign > 0
  · rw [if_pos c1]; exact ev_pos c1 (Ev.now _)
  rw [if_neg c1]
  refine ev_neg c1 ?_
  by_cases c2 : m = 2
  · rw [if_pos c2, ← hB]; exact ev_pos c2 (Ev.now _)
  rw [if_neg c2]
  refine ev_neg c2 ?_
  rw [wneg64 (by omega) (by omega)]
  refine ev_bind (rShift_mk F (by omega) (by omega) (by omega) (by omega) (by omega)) ?_; try dsimp only
  rw [show E + -E = 0 by omega]
  refine ev_bind (rhalf_mk (by omega) (by omega) (by omega)) ?_; try dsimp only
  refine Ev.bind (rFloor_mk (by omega) (by omega) (by omega)) ?_; try dsimp only
  refine ev_bind (rhalf_mk (by omega) (by omega) (by omega)) ?_; try dsimp only
  have hf : floorD F (0 + -1) = F / 2 := rfl
  rw [hf]
  have hbh := bl_half F
  refine Ev.bind (rSame_mk _ _ _ _ (by omega)) ?_; try dsimp only
  have hs : (mk (F / 2) 0 = mk F (0 + -1)) ↔ F % 2 = 0 := by
    rw [mk_eq_iff (m := -1) (by omega) (by omega)]
    have e1 : al (F / 2) 0 (-1) = F / 2 * 2 := by unfold al; rfl
    have e2 : al F (0 + -1) (-1) = F := by rw [Int.zero_add, al_self]
    rw [e1, e2]; omega
  by_cases c6 : F % 2 = 0
  · rw [if_pos c6]; exact ev_pos (decide_eq_true (hs.2 c6)) (Ev.now _)
  · rw [if_neg c6]; exact ev_neg (by rw [decide_eq_false (fun h => c6 (hs.1 h))]; simp) (Ev.now _)
theorem rTaken_ev {m : Int} (hm : isM m) {z e E : Int} (hz : z ≠ 0) (hb : bl z.natAbs ≤ 9000000) (h1 : -4000000 ≤ e) (h2 : e ≤ 4000000) (h3 : -4000000 ≤ E) (h4 : E ≤ 4000000) :
    Ev (fun q => cutplaneref04_Taken.f q m (mk z e).1 (mk z e).2.1 (mk z e).2.2 E) (mk (TK m z e E) E) := by
  have hFb := floorD_bl (z := z) (e := e - E)
  unfold cutplaneref04_Taken.f
  rw [wneg64 (by omega) (by omega)]
  refine ev_bind (rShift_mk z (by omega) (by omega) (by omega) (by omega) (by omega)) ?_; try dsimp only
  rw [show e + -E = e - E by omega]
  refine Ev.bind (rFloor_mk (by omega) (by omega) (by omega)) ?_; try dsimp only
  generalize hF : floorD z (e - E) = F at *
  refine ev_bind (rShift_mk F (by omega) (by omega) (by omega) (by omega) (by omega)) ?_; try dsimp only
  rw [Int.zero_add]
  refine Ev.bind (rSame_mk F E z e (by omega)) ?_; try dsimp only
  have hx := exR_iff (z := z) (e := e) (E := E)
  rw [hF] at hx
  cases c : exR z.natAbs e E
  · obtain ⟨hlt, hp⟩ := pick_TK (m := m) hm c
    rw [hF] at hp
    have hn : ¬ (mk F E = mk z e) := fun h => by have := hx.2 h; rw [c] at this; cases this
    refine ev_neg (by rw [decide_eq_false hn]; simp) ?_
    refine ev_bind (rTwo_eq E) ?_; try dsimp only
    have hk : E = e + ((E - e).toNat : Nat) := by omega
    have rF : Rg F E := ⟨by omega, by omega, by omega⟩
    have r1 : Rg 1 E := ⟨by decide, by omega, by omega⟩
    have ha := rAdd_mk rF r1
    rw [addD_same] at ha
    refine Ev.bind (ha) ?_; try dsimp only
    have hF2 : F = z / 2 ^ (E - e).toNat := by
      rw [← hF]; unfold floorD
      rw [if_neg (by omega), show (-(e - E)).toNat = (E - e).toNat by omega]
    have hs : (mk z e).1 = decide (z < 0) := by unfold mk; rw [if_neg hz]
    have j1 := fun s B S hB hS => rTaken_j1 (m := m) (B := B) (S := S) hb h1 h2 h3 h4 hk hF2 s hB hS false [] 0
    rw [hs]
    by_cases hz2 : z < 0
    · rw [decide_eq_true hz2] at hp ⊢
      refine ev_pos rfl ?_
      have := j1 true F (F + 1) rfl rfl
      rw [hp, hs, decide_eq_true hz2] at this
      exact this
    · rw [decide_eq_false hz2] at hp ⊢
      refine ev_neg (by simp) ?_
      have := j1 false (F + 1) F rfl rfl
      rw [hp, hs, decide_eq_false hz2] at this
      exact this
  · have hn := hx.1 c
    refine ev_pos (decide_eq_true hn) (ev_eq (Ev.now _) ?_)
    rw [TK_exact c]
end Go.Proofs.YtbcjdlljmhfhdaaGreatDoor.Eng.K

/- Rounding, the reference: the word and the flags. -/
set_option linter.unusedVariables false
set_option linter.unusedSimpArgs false
namespace Go.Proofs.YtbcjdlljmhfhdaaGreatDoor.Eng.K
open Go.RowKit

/-- Towards nought, as the sign stands? -/
def inw (m : Int) (s : Bool) : Bool := decide (m = 3) || (decide (m = 4) && s) || (decide (m = 5) && !s)
def overW (f m : Int) (s : Bool) : Nat := (if inw m s = true then mo f * 2 ^ fb f - 1 else mo f * 2 ^ fb f) + sgn f s
theorem rOver_j0 {f : Int} (h : isF f) (s b : Bool) : Ev (fun k => cutplaneref04_Over.j0 k f s b) (((if b = true then mo f * 2 ^ fb f - 1 else mo f * 2 ^ fb f) + sgn f s : Nat) : Int) := by
  have hp := pw_pos (fb f)
  have hm := mo_ge h
  have hq : 1 ≤ mo f * 2 ^ fb f := Nat.mul_pos (by omega) hp
  have hil := inf_lt h
  have hsp := sg_pos h
  have hsg : sgn f s ≤ sg f := by unfold sgn; split <;> omega
  refine ev_step ?_
  simp only [cutplaneref04_Over.j0]
  cases b
  · refine ev_neg (by simp) ?_
    refine ev_bind (rInf_eq h s) ?_; try dsimp only
    exact Ev.now _
  · refine ev_pos rfl ?_
    refine ev_bind (rInf_eq h s) ?_; try dsimp only
    refine ev_eq (Ev.now _) ?_
    rw [u64 (by omega) (by omega), if_pos rfl]
    omega
theorem rOver_ev {f : Int} (h : isF f) (m : Int) (s : Bool) : Ev (fun k => cutplaneref04_Over.f k f m s) (overW f m s : Int) := by
  have j := fun b => rOver_j0 h s b
  unfold cutplaneref04_Over.f overW
  by_cases c3 : m = 3
  · refine ev_pos c3 ?_
    have e : inw m s = true := by unfold inw; simp [c3]
    rw [e]; exact j true
  refine ev_neg c3 ?_
  by_cases c4 : m = 4
  · refine ev_pos c4 ?_
    have e : inw m s = s := by unfold inw; simp [c4]
    rw [e]
    cases s
    · exact ev_neg (by simp) (ev_neg (by omega) (j false))
    · exact ev_pos rfl (j true)
  refine ev_neg c4 ?_
  by_cases c5 : m = 5
  · refine ev_pos c5 ?_
    have e : inw m s = !s := by unfold inw; simp [c5]
    rw [e]; exact j (!s)
  · refine ev_neg c5 ?_
    have e : inw m s = false := by unfold inw; simp [c3, c4, c5]
    rw [e]; exact j false
theorem two_digits {X : Nat} (h0 : X ≠ 0) (h : X < 18446744073709551616) : 0 < (D X).length ∧ (D X).length ≤ 2 ∧ rd (D X) 0 = ((X % 4294967296 : Nat) : Int) ∧ ((D X).length > 1 → rd (D X) 1 = ((X / 4294967296 : Nat) : Int)) ∧ ((D X).length ≤ 1 → X < 4294967296) := by
  have h1 : D X = ((X % 4294967296 : Nat) : Int) :: D (X / 4294967296) := D_pos h0
  have h2 : (D (X / 4294967296)).length ≤ 1 := D_lt (by omega)
  refine ⟨by rw [h1]; simp, by rw [h1]; simp; omega, by rw [h1]; rfl, ?_, ?_⟩
  · intro h3
    have h4 : X / 4294967296 ≠ 0 := by
      intro h4
      rw [h1, h4, D_zero] at h3
      simp at h3
    rw [h1, D_pos h4]
    show (((X / 4294967296 % 4294967296 : Nat)) : Int) = _
    omega
  · intro h3
    rcases Nat.lt_or_ge X 4294967296 with h4 | h4
    · exact h4
    · exfalso
      have h5 : X / 4294967296 ≠ 0 := by omega
      rw [h1, D_pos h5] at h3
      simp at h3
theorem rOf_j4 {f : Int} (h : isF f) {X : Nat} {U : Int} (hX : X < 2 ^ pr f) (hU : lo f ≤ U) (hU2 : (U - lo f).toNat ≤ mo f - 2) (hn : X < 2 ^ fb f → U = lo f) (l : List Int) (e : Int) (s : Bool) :
    Ev (fun k => cutplaneref03_Of.j4 k f s l e U (X : Int)) (((((U - lo f).toNat * 2 ^ fb f + X) + sgn f s : Nat) : Int), true) := by
  have hb := fb_le h
  have hp := pw_pos (fb f)
  have hpr := pr_eq h
  have h2 := two_fb h
  have hl := lo_b h
  have hm := mo_ge h
  have hil := inf_lt h
  have hsp := sg_pos h
  have hpw := pfb h
  have hm2 := mo_le h
  rw [hpr, Nat.pow_succ] at hX
  have hmm : (mo f - 2) * 2 ^ fb f + 2 ^ fb f * 2 = mo f * 2 ^ fb f := by
    rw [Nat.mul_comm (2 ^ fb f) 2, ← Nat.add_mul]; congr 1; omega
  have hle := Nat.mul_le_mul_right (2 ^ fb f) hU2
  refine ev_step ?_
  simp only [cutplaneref03_Of.j4]
  refine ev_bind (rFrac_eq h) ?_; try dsimp only
  rw [shr_n X (fb f) (by show fb f ≤ 64; omega)]
  refine ev_pos (by omega) ?_
  by_cases c : X < 2 ^ fb f
  · have hU3 := hn c
    have e0 : (U - lo f).toNat = 0 := by omega
    refine ev_neg (by rw [Nat.div_eq_of_lt c]; omega) ?_
    have := rJoin_eq h s (q := 0) (r := X) (by omega)
    rw [show ((0 : Nat) : Int) = 0 from rfl] at this
    refine ev_bind (this) ?_; try dsimp only
    refine ev_eq (Ev.now _) ?_
    rw [e0]
  · have hd : 0 < X / 2 ^ fb f := Nat.div_pos (by omega) hp
    refine ev_pos (by omega) ?_
    refine ev_bind (rFrac_eq h) ?_; try dsimp only
    refine ev_pos (by omega) ?_
    refine ev_bind (rLow_eq h) ?_; try dsimp only
    rw [one_shl h]
    have e1 : wrap64 (wrap64 (U - lo f) + 1) = (((U - lo f).toNat + 1 : Nat) : Int) := by unfold wrap64; omega
    have e2 : IntKind.u64.wrap ((X : Int) - ((2 ^ fb f : Nat) : Int)) = ((X - 2 ^ fb f : Nat) : Int) := by
      have : (X : Int) - ((2 ^ fb f : Nat) : Int) = ((X - 2 ^ fb f : Nat) : Int) := by omega
      rw [this]; exact u64 (by omega) (by omega)
    rw [e1, e2]
    have hs : ((U - lo f).toNat + 1) * 2 ^ fb f + (X - 2 ^ fb f) = (U - lo f).toNat * 2 ^ fb f + X := by
      rw [Nat.add_mul, Nat.one_mul]; omega
    have := rJoin_eq h s (q := (U - lo f).toNat + 1) (r := X - 2 ^ fb f) (by omega)
    rw [hs] at this
    refine ev_bind (this) ?_; try dsimp only
    exact Ev.now _
theorem wtwo {a b : Int} (h1 : -1000000000 ≤ a) (h2 : a ≤ 1000000000) (h3 : -1000000000 ≤ b) (h4 : b ≤ 1000000000) : wrap64 (wrap64 (a - b) - 1) = a - b - 1 := by unfold wrap64; omega
theorem rOf_ev {f : Int} (h : isF f) {s : Bool} {l : List Int} {e : Int} (hd : Dy s l e) (h0 : l ≠ []) (hn : bl (V l) ≤ pr f) (he : lo f ≤ e) (hw : e + (bl (V l) : Nat) ≤ wd f) :
    Ev (fun k => cutplaneref03_Of.f k f s l e) (((enc f (V l) e + sgn f s : Nat) : Int), true) := by
  have hV : V l ≠ 0 := fun c => h0 ((V_eq_zero hd.nm).1 c)
  have hl := lo_b h
  have hwb := wd_b h
  have hpr := pr_eq h
  have hfb := fb_le h
  have hll : l.length ≤ 2 := by
    have h1 : (D (V l)).length ≤ 2 := len_bl (by omega)
    rwa [hd.nm] at h1
  obtain ⟨e1, e2⟩ := enc_lt h hn he hw
  have hplt := part_lt hn he
  have hu := unit_le hn he
  have hul := unit_ge f (V l) e
  have hsg : (sv s (V l)).sign ≠ 0 := by rw [sv_sign hV]; split <;> omega
  have htop : top (sv s (V l)) e = e + (bl (V l) : Nat) := by unfold top; rw [if_neg (fun h => hV (sv_eq_zero.1 h)), sv_abs]
  have ht := ref_Top2_ev hd (by omega) (by omega) (by omega)
  rw [htop] at ht
  have hlen := ref_Len_ev hd.nm (by omega)
  have h2 := two_fb h
  have hun : unit f (V l) e = max (e + (bl (V l) : Nat) - (pr f : Nat)) (lo f) := rfl
  have hj := rOf_j4 h (X := V l * 2 ^ (e - unit f (V l) e).toNat) (U := unit f (V l) e) hplt hul e2 (by
    intro hx
    have h3 : bl (V l * 2 ^ (e - unit f (V l) e).toNat) ≤ fb f := bl_le_of_lt hx
    rw [bl_up hV] at h3
    omega) l e s
  have hup := ref_Up_ev hd.nm.dg (by omega) (e - unit f (V l) e).toNat (by omega)
  have hX0 : V l * 2 ^ (e - unit f (V l) e).toNat ≠ 0 := by
    have := Nat.mul_pos (Nat.pos_of_ne_zero hV) (pw_pos (e - unit f (V l) e).toNat)
    omega
  have hpf := pw_pos (fb f)
  obtain ⟨d1, d2, d3, d4, d5⟩ := two_digits hX0 (by omega)
  have hf : enc f (V l) e = (unit f (V l) e - lo f).toNat * 2 ^ fb f + V l * 2 ^ (e - unit f (V l) e).toNat := rfl
  rw [← hf] at hj
  have last : Ev (fun k => cutplaneref03_Of.j3 k f s l e (unit f (V l) e)) (((enc f (V l) e + sgn f s : Nat) : Int), true) := by
    refine ev_step ?_
    simp only [cutplaneref03_Of.j3]
    have ew : wrap64 (e - unit f (V l) e) = ((e - unit f (V l) e).toNat : Int) := by unfold wrap64; omega
    rw [ew]
    clear ew
    refine Ev.bind (hup) ?_; try dsimp only
    clear hf e1
    generalize hX : V l * 2 ^ (e - unit f (V l) e).toNat = X at *
    have hXl : X < 18446744073709551616 := by omega
    refine ev_pos (by omega) ?_
    by_cases c : (D X).length > 1
    · have x1 := d4 c
      have y0 : IntKind.u64.wrap ((X % 4294967296 : Nat) : Int) = ((X % 4294967296 : Nat) : Int) := u64 (by omega) (by omega)
      have y1 : IntKind.u64.wrap ((X / 4294967296 : Nat) : Int) = ((X / 4294967296 : Nat) : Int) := u64 (by omega) (by omega)
      have y2 : IntKind.u64.wrap (((X / 4294967296 : Nat) : Int) * 4294967296) = ((X / 4294967296 * 4294967296 : Nat) : Int) := by
        rw [show ((X / 4294967296 : Nat) : Int) * 4294967296 = ((X / 4294967296 * 4294967296 : Nat) : Int) by omega]
        exact u64 (by omega) (by omega)
      have y3 : IntKind.u64.wrap (((X % 4294967296 : Nat) : Int) + ((X / 4294967296 * 4294967296 : Nat) : Int)) = (X : Int) := by
        rw [show ((X % 4294967296 : Nat) : Int) + ((X / 4294967296 * 4294967296 : Nat) : Int) = (X : Int) by omega]
        exact u64 (by omega) (by omega)
      refine ev_pos (by omega) (ev_pos (by omega) ?_)
      rw [d3, x1, y0, y1, y2, y3]
      exact hj
    · have x1 := d5 (by omega)
      have y0 : IntKind.u64.wrap ((X % 4294967296 : Nat) : Int) = (X : Int) := by
        rw [show ((X % 4294967296 : Nat) : Int) = (X : Int) by omega]
        exact u64 (by omega) (by omega)
      refine ev_neg (by omega) ?_
      rw [d3, y0]
      exact hj
  have w1 : wrap64 ((fb f : Int) + 1) = (fb f : Int) + 1 := by unfold wrap64; omega
  have w2 : wrap64 (wrap64 (e + (bl (V l) : Nat) - (fb f : Int)) - 1) = e + (bl (V l) : Nat) - (fb f : Int) - 1 := by
    clear w1; exact wtwo (by omega) (by omega) (by omega) (by omega)
  unfold cutplaneref03_Of.f
  refine ev_bind (ref_Sign2_eq hd) ?_; try dsimp only
  refine ev_neg hsg ?_
  refine Ev.bind (ht) ?_; try dsimp only
  refine ev_bind (rWide_eq h) ?_; try dsimp only
  refine ev_neg (by clear w1 w2; omega) ?_
  refine ev_bind (rLow_eq h) ?_; try dsimp only
  refine ev_neg (by clear w1 w2; omega) ?_
  refine Ev.bind (hlen) ?_; try dsimp only
  refine ev_bind (rFrac_eq h) ?_; try dsimp only
  rw [w1]
  refine ev_neg (by clear w1 w2; omega) ?_
  refine ev_bind (rFrac_eq h) ?_; try dsimp only
  refine ev_bind (rLow_eq h) ?_; try dsimp only
  rw [w2]
  clear w1 w2
  by_cases c : e + (bl (V l) : Nat) - (fb f : Int) - 1 < lo f
  · refine ev_pos c ?_
    refine ev_bind (rLow_eq h) ?_; try dsimp only
    have : lo f = unit f (V l) e := by omega
    rw [this]
    exact last
  · refine ev_neg c ?_
    have : e + (bl (V l) : Nat) - (fb f : Int) - 1 = unit f (V l) e := by omega
    rw [this]
    exact last
end Go.Proofs.YtbcjdlljmhfhdaaGreatDoor.Eng.K

/- Rounding: what it comes to, and the reference's way to it. -/
set_option linter.unusedVariables false
set_option linter.unusedSimpArgs false
namespace Go.Proofs.YtbcjdlljmhfhdaaGreatDoor.Eng.K
open Go.RowKit

/-- The word of a size, of its one form. -/
def encN (f : Int) (n : Nat) (e : Int) : Nat := enc f (n / 2 ^ lw n) (e + (lw n : Nat))
/-- The word to which a size is rounded, and the flags. -/
def unitR (f : Int) (n : Nat) (e : Int) : Int := max (e + (bl n : Nat) - (pr f : Nat)) (lo f)
def roundS (f m : Int) (s : Bool) (n : Nat) (e : Int) : Int × Int :=
  let q := R m s n e (unitR f n e)
  if (bl q : Int) + unitR f n e > wd f then ((overW f m s : Int), 20)
  else ((((if q = 0 then 0 else encN f q (unitR f n e)) + sgn f s : Nat) : Int),
    if exR n e (unitR f n e) = true then 0
    else if (bl (R m s n e (e + (bl n : Nat) - (pr f : Nat))) : Int) + (e + (bl n : Nat) - (pr f : Nat)) < lo f + (pr f : Nat) then 24 else 16)
theorem R_le {m : Int} {s : Bool} {n : Nat} {e E : Int} {p : Nat} (h : e + (bl n : Nat) - (p : Nat) ≤ E) : R m s n e E ≤ 2 ^ p := by
  have h1 := lt_bl n
  unfold R
  by_cases c : E ≤ e
  · have e1 : (E - e).toNat = 0 := by omega
    rw [e1, rnd_zero]
    have h2 : n * 2 ^ (e - E).toNat < 2 ^ bl n * 2 ^ (e - E).toNat := Nat.mul_lt_mul_of_pos_right h1 (pw_pos _)
    rw [← Nat.pow_add] at h2
    exact Nat.le_trans (Nat.le_of_lt h2) (Nat.pow_le_pow_right (by omega) (by omega))
  · have e1 : (e - E).toNat = 0 := by omega
    rw [e1, Nat.pow_zero, Nat.mul_one]
    have h3 : n / 2 ^ (E - e).toNat < 2 ^ p := by
      rw [Nat.div_lt_iff_lt_mul (pw_pos _), ← Nat.pow_add]
      exact Nat.lt_of_lt_of_le h1 (Nat.pow_le_pow_right (by omega) (by omega))
    unfold rnd
    split <;> omega
theorem odd_bl {q p : Nat} (h0 : q ≠ 0) (h : q ≤ 2 ^ p) : bl (q / 2 ^ lw q) ≤ p ∨ p = 0 := by
  rcases Nat.eq_zero_or_pos p with hp | hp
  · exact .inr hp
  left
  rcases Nat.lt_or_ge q (2 ^ p) with c | c
  · exact bl_le_of_lt (Nat.lt_of_le_of_lt (Nat.div_le_self _ _) c)
  · have e : q = 2 ^ p := by omega
    have hw : lw q = p := lw_eq ⟨0, by rw [e]; omega⟩
    rw [hw, e, Nat.div_self (pw_pos p)]
    have : bl 1 = 1 := by decide
    omega
theorem R_zero_unit {f m : Int} {s : Bool} {n : Nat} {e : Int} (h : isF f) (hn : n ≠ 0) (hq : R m s n e (unitR f n e) = 0) : unitR f n e = lo f := by
  have hpr := pr_eq h
  unfold unitR at *
  rcases Int.le_total (e + (bl n : Nat) - (pr f : Nat)) (lo f) with c | c
  · omega
  · exfalso
    have h1 := (R_mono_top (m := m) (s := s) (n := n) (e := e) (E := max (e + (bl n : Nat) - (pr f : Nat)) (lo f)) hn (by omega)).1
    rw [hq] at h1
    have b0 : bl 0 = 0 := bl_zero
    rw [b0] at h1
    omega
theorem top_lw {n : Nat} (h : n ≠ 0) : bl (n / 2 ^ lw n) + lw n = bl n := by
  have := lw_lt h
  rw [bl_down]; omega
/-- What a word's making is asked of: a rounded size that is no nought. -/
theorem enc_ok {f m : Int} {s : Bool} {n : Nat} {e : Int} (h : isF f) (hq : R m s n e (unitR f n e) ≠ 0) (hw : ¬ ((bl (R m s n e (unitR f n e)) : Int) + unitR f n e > wd f)) :
    bl (R m s n e (unitR f n e) / 2 ^ lw (R m s n e (unitR f n e))) ≤ pr f ∧ lo f ≤ unitR f n e + (lw (R m s n e (unitR f n e)) : Nat) ∧ unitR f n e + (lw (R m s n e (unitR f n e)) : Nat) + (bl (R m s n e (unitR f n e) / 2 ^ lw (R m s n e (unitR f n e))) : Nat) ≤ wd f := by
  have hpr := pr_eq h
  have h1 : R m s n e (unitR f n e) ≤ 2 ^ pr f := R_le (by unfold unitR; omega)
  have h2 := (odd_bl hq h1).resolve_right (by omega)
  have h3 := top_lw hq
  refine ⟨h2, by unfold unitR; omega, by omega⟩
theorem TK_abs (m z e E : Int) : (TK m z e E).natAbs = R m (decide (z < 0)) z.natAbs e E := by unfold TK; exact sv_abs _ _
theorem TK_zero (m z e E : Int) : TK m z e E = 0 ↔ R m (decide (z < 0)) z.natAbs e E = 0 := by unfold TK; exact sv_eq_zero
theorem top_TK (m z e E : Int) : top (TK m z e E) E = if R m (decide (z < 0)) z.natAbs e E = 0 then 0 else E + (bl (R m (decide (z < 0)) z.natAbs e E) : Nat) := by
  unfold top
  by_cases c : R m (decide (z < 0)) z.natAbs e E = 0
  · rw [if_pos c, if_pos ((TK_zero m z e E).2 c)]
  · rw [if_neg c, if_neg (fun h => c ((TK_zero m z e E).1 h)), TK_abs]
theorem TK_same {m z e E : Int} : (mk z e = mk (TK m z e E) E) ↔ exR z.natAbs e E = true := by
  constructor
  · intro h
    unfold exR
    apply decide_eq_true
    by_cases c : E ≤ e
    · have e1 : (E - e).toNat = 0 := by omega
      rw [e1, Nat.pow_zero, Nat.mod_one]
    · have hE : E = e + ((E - e).toNat : Nat) := by omega
      rw [hE, ← mk_up, ← hE] at h
      have h1 := mk_inj h
      have h2 : (2 ^ (E - e).toNat : Int) ∣ z := ⟨TK m z e E, by rw [Int.mul_comm]; exact h1⟩
      have h3 : ((2 ^ (E - e).toNat : Nat) : Int) ∣ z := by rw [Int.natCast_pow]; exact h2
      exact Nat.mod_eq_zero_of_dvd (Int.ofNat_dvd_left.1 h3)
  · intro h; exact (TK_exact h).symm
theorem rRound_j1 {f m : Int} (h : isF f) (hm : isM m) {z e : Int} (hz : z ≠ 0) (hb : bl z.natAbs ≤ 3000000) (h1 : -900000 ≤ e) (h2 : e ≤ 900000) :
    Ev (fun k => cutplaneref04_Round.j1 k f m (mk z e).1 (mk z e).2.1 (mk z e).2.2 (pr f : Nat) (e + (bl z.natAbs : Nat) - (pr f : Nat)) (unitR f z.natAbs e)) (roundS f m (decide (z < 0)) z.natAbs e) := by
  have hl := lo_b h
  have hwb := wd_b h
  have hpr := pr_eq h
  have hfb := fb_le h
  have hu : unitR f z.natAbs e = max (e + (bl z.natAbs : Nat) - (pr f : Nat)) (lo f) := rfl
  have t1 := rTaken_ev hm hz (e := e) (E := unitR f z.natAbs e) (by omega) (by omega) (by omega) (by omega) (by omega)
  have t2 := rTaken_ev hm hz (e := e) (E := e + (bl z.natAbs : Nat) - (pr f : Nat)) (by omega) (by omega) (by omega) (by omega) (by omega)
  have hq : R m (decide (z < 0)) z.natAbs e (unitR f z.natAbs e) ≤ 2 ^ pr f := R_le (by omega)
  have hqb : bl (R m (decide (z < 0)) z.natAbs e (unitR f z.natAbs e)) ≤ pr f + 1 := bl_le_of_lt (Nat.lt_of_le_of_lt hq (by rw [Nat.pow_succ]; have := pw_pos (pr f); omega))
  have hq2 : R m (decide (z < 0)) z.natAbs e (e + (bl z.natAbs : Nat) - (pr f : Nat)) ≤ 2 ^ pr f := R_le (by omega)
  have hqb2 : bl (R m (decide (z < 0)) z.natAbs e (e + (bl z.natAbs : Nat) - (pr f : Nat))) ≤ pr f + 1 := bl_le_of_lt (Nat.lt_of_le_of_lt hq2 (by rw [Nat.pow_succ]; have := pw_pos (pr f); omega))
  have hza : z.natAbs ≠ 0 := by omega
  have hfine := (R_mono_top (m := m) (s := decide (z < 0)) (n := z.natAbs) (e := e) (E := e + (bl z.natAbs : Nat) - (pr f : Nat)) hza (by omega)).1
  have tp1 := rTop_mk (z := TK m z e (unitR f z.natAbs e)) (e := unitR f z.natAbs e) ⟨by rw [TK_abs]; omega, by omega, by omega⟩
  have tp2 := rTop_mk (z := TK m z e (e + (bl z.natAbs : Nat) - (pr f : Nat))) (e := e + (bl z.natAbs : Nat) - (pr f : Nat)) ⟨by rw [TK_abs]; omega, by omega, by omega⟩
  rw [top_TK] at tp1 tp2
  have hs : (mk z e).1 = decide (z < 0) := by unfold mk; rw [if_neg hz]
  have hsm := rSame_mk z e (TK m z e (unitR f z.natAbs e)) (unitR f z.natAbs e) (by omega)
  have hok := fun hq hw => enc_ok (f := f) (m := m) (s := decide (z < 0)) (n := z.natAbs) (e := e) h hq hw
  have hz0 := fun hq => R_zero_unit (f := f) (m := m) (s := decide (z < 0)) (n := z.natAbs) (e := e) h hza hq
  have eRS : roundS f m (decide (z < 0)) z.natAbs e = if (bl (R m (decide (z < 0)) z.natAbs e (unitR f z.natAbs e)) : Int) + unitR f z.natAbs e > wd f then ((overW f m (decide (z < 0)) : Int), 20)
    else ((((if R m (decide (z < 0)) z.natAbs e (unitR f z.natAbs e) = 0 then 0 else encN f (R m (decide (z < 0)) z.natAbs e (unitR f z.natAbs e)) (unitR f z.natAbs e)) + sgn f (decide (z < 0)) : Nat) : Int),
    if exR z.natAbs e (unitR f z.natAbs e) = true then 0
    else if (bl (R m (decide (z < 0)) z.natAbs e (e + (bl z.natAbs : Nat) - (pr f : Nat))) : Int) + (e + (bl z.natAbs : Nat) - (pr f : Nat)) < lo f + (pr f : Nat) then 24 else 16) := rfl
  rw [eRS]
  clear eRS
  refine ev_step ?_
  simp only [cutplaneref04_Round.j1]
  refine Ev.bind (t1) ?_; try dsimp only
  refine Ev.bind (tp1) ?_; try dsimp only
  refine ev_bind (rWide_eq h) ?_; try dsimp only
  have cT : ((if R m (decide (z < 0)) z.natAbs e (unitR f z.natAbs e) = 0 then 0 else unitR f z.natAbs e + (bl (R m (decide (z < 0)) z.natAbs e (unitR f z.natAbs e)) : Nat)) > wd f) ↔ ((bl (R m (decide (z < 0)) z.natAbs e (unitR f z.natAbs e)) : Int) + unitR f z.natAbs e > wd f) := by
    by_cases c : R m (decide (z < 0)) z.natAbs e (unitR f z.natAbs e) = 0
    · have := hz0 c
      have b0 : bl 0 = 0 := bl_zero
      rw [if_pos c, c, b0]; omega
    · rw [if_neg c]; omega
  by_cases c : ((bl (R m (decide (z < 0)) z.natAbs e (unitR f z.natAbs e)) : Int) + unitR f z.natAbs e > wd f)
  · rw [if_pos c]
    refine ev_pos (cT.2 c) ?_
    rw [hs]
    refine Ev.bind (rOver_ev h m (decide (z < 0))) ?_; try dsimp only
    exact Ev.now _
  rw [if_neg c]
  refine ev_neg (fun h => c (cT.1 h)) ?_
  clear cT
  -- the word
  have hword : Ev (fun k => cutplaneref03_Of.f k f false (mk (TK m z e (unitR f z.natAbs e)) (unitR f z.natAbs e)).2.1 (mk (TK m z e (unitR f z.natAbs e)) (unitR f z.natAbs e)).2.2) ((((if R m (decide (z < 0)) z.natAbs e (unitR f z.natAbs e) = 0 then 0 else encN f (R m (decide (z < 0)) z.natAbs e (unitR f z.natAbs e)) (unitR f z.natAbs e)) : Nat) : Int), true) ∧ (if R m (decide (z < 0)) z.natAbs e (unitR f z.natAbs e) = 0 then 0 else encN f (R m (decide (z < 0)) z.natAbs e (unitR f z.natAbs e)) (unitR f z.natAbs e)) < sg f := by
    have hab := TK_abs m z e (unitR f z.natAbs e)
    have hil := inf_lt h
    have hp := pw_pos (fb f)
    by_cases cq : R m (decide (z < 0)) z.natAbs e (unitR f z.natAbs e) = 0
    · rw [if_pos cq]
      refine ⟨?_, (sg_pos h).1⟩
      have : TK m z e (unitR f z.natAbs e) = 0 := (TK_zero m z e _).2 cq
      rw [this, mk_zero]
      unfold cutplaneref03_Of.f
      exact ev_bind (a := 0) rfl (ev_pos rfl (Ev.now _))
    · rw [if_neg cq]
      obtain ⟨o1, o2, o3⟩ := hok cq c
      have hT : TK m z e (unitR f z.natAbs e) ≠ 0 := fun h => cq ((TK_zero m z e _).1 h)
      have hmk : mk (TK m z e (unitR f z.natAbs e)) (unitR f z.natAbs e) = (decide (TK m z e (unitR f z.natAbs e) < 0), D (R m (decide (z < 0)) z.natAbs e (unitR f z.natAbs e) / 2 ^ lw (R m (decide (z < 0)) z.natAbs e (unitR f z.natAbs e))), unitR f z.natAbs e + (lw (R m (decide (z < 0)) z.natAbs e (unitR f z.natAbs e)) : Nat)) := by
        unfold mk; rw [if_neg hT, hab]
      have hdy := Dy_mk (TK m z e (unitR f z.natAbs e)) (unitR f z.natAbs e)
      rw [hmk] at hdy ⊢
      have hne : D (R m (decide (z < 0)) z.natAbs e (unitR f z.natAbs e) / 2 ^ lw (R m (decide (z < 0)) z.natAbs e (unitR f z.natAbs e))) ≠ [] := by
        intro h0
        have h1 : V (D (R m (decide (z < 0)) z.natAbs e (unitR f z.natAbs e) / 2 ^ lw (R m (decide (z < 0)) z.natAbs e (unitR f z.natAbs e)))) = 0 := by rw [h0]; rfl
        rw [V_D] at h1
        have h2 := top_lw cq
        rw [h1, bl_zero] at h2
        have := lw_lt cq
        omega
      have hd0 : Dy false (D (R m (decide (z < 0)) z.natAbs e (unitR f z.natAbs e) / 2 ^ lw (R m (decide (z < 0)) z.natAbs e (unitR f z.natAbs e)))) (unitR f z.natAbs e + (lw (R m (decide (z < 0)) z.natAbs e (unitR f z.natAbs e)) : Nat)) := ⟨hdy.nm, fun h => absurd h hne, hdy.odd⟩
      have := rOf_ev h hd0 hne (by rw [V_D]; exact o1) o2 (by rw [V_D]; exact o3)
      rw [V_D] at this
      have hlt := (enc_lt h (n := R m (decide (z < 0)) z.natAbs e (unitR f z.natAbs e) / 2 ^ lw (R m (decide (z < 0)) z.natAbs e (unitR f z.natAbs e))) o1 o2 o3).1
      refine ⟨ev_eq this ?_, ?_⟩
      · show ((((enc f _ _ + 0 : Nat)) : Int), true) = _
        rw [Nat.add_zero]; rfl
      · unfold encN; omega
  have hab2 : cutplaneref02_Abs.f (mk (TK m z e (unitR f z.natAbs e)) (unitR f z.natAbs e)).1 (mk (TK m z e (unitR f z.natAbs e)) (unitR f z.natAbs e)).2.1 (mk (TK m z e (unitR f z.natAbs e)) (unitR f z.natAbs e)).2.2 = some (false, (mk (TK m z e (unitR f z.natAbs e)) (unitR f z.natAbs e)).2.1, (mk (TK m z e (unitR f z.natAbs e)) (unitR f z.natAbs e)).2.2) := rfl
  refine ev_bind (hab2) ?_; try dsimp only
  refine Ev.bind (hword.1) ?_; try dsimp only
  rw [hs]
  refine ev_bind (rSigned_eq h _ _) ?_; try dsimp only
  rw [Nat.mod_eq_of_lt hword.2]
  rw [hs] at hsm t2
  refine Ev.bind (hsm) ?_; try dsimp only
  cases cx : exR z.natAbs e (unitR f z.natAbs e)
  · refine ev_neg (by rw [decide_eq_false (fun h => by have := TK_same.1 h; rw [cx] at this; cases this)]; simp) ?_
    rw [if_neg Bool.false_ne_true]
    refine Ev.bind (t2) ?_; try dsimp only
    refine Ev.bind (tp2) ?_; try dsimp only
    refine ev_bind (rLow_eq h) ?_; try dsimp only
    have w1 : wrap64 (lo f + ((pr f : Nat) : Int)) = lo f + ((pr f : Nat) : Int) := by unfold wrap64; omega
    rw [w1]
    clear w1
    have hne : R m (decide (z < 0)) z.natAbs e (e + (bl z.natAbs : Nat) - (pr f : Nat)) ≠ 0 := by
      intro h0
      rw [h0, bl_zero] at hfine
      omega
    rw [if_neg hne]
    by_cases cu : (bl (R m (decide (z < 0)) z.natAbs e (e + (bl z.natAbs : Nat) - (pr f : Nat))) : Int) + (e + (bl z.natAbs : Nat) - (pr f : Nat)) < lo f + (pr f : Nat)
    · rw [if_pos cu]
      refine ev_pos (by omega) ?_
      exact Ev.now _
    · rw [if_neg cu]
      refine ev_neg (by omega) ?_
      exact Ev.now _
  · refine ev_pos (decide_eq_true (TK_same.2 cx)) ?_
    rw [if_pos rfl]
    exact Ev.now _
theorem rRound_ev {f m : Int} (h : isF f) (hm : isM m) {z e : Int} (hz : z ≠ 0) (hb : bl z.natAbs ≤ 3000000) (h1 : -900000 ≤ e) (h2 : e ≤ 900000) :
    Ev (fun k => cutplaneref04_Round.f k f m (mk z e).1 (mk z e).2.1 (mk z e).2.2) (roundS f m (decide (z < 0)) z.natAbs e) := by
  have hl := lo_b h
  have hpr := pr_eq h
  have hfb := fb_le h
  have j := rRound_j1 h hm hz hb h1 h2
  have tp := rTop_mk (z := z) (e := e) ⟨by omega, by omega, by omega⟩
  have et : top z e = e + (bl z.natAbs : Nat) := by unfold top; rw [if_neg hz]
  rw [et] at tp
  have hu : unitR f z.natAbs e = max (e + (bl z.natAbs : Nat) - (pr f : Nat)) (lo f) := rfl
  unfold cutplaneref04_Round.f
  refine ev_bind (rSign_mk z e) ?_; try dsimp only
  refine ev_neg (fun h => hz (by rcases sgn_cases z with ⟨_, c⟩ | ⟨c, _⟩ | ⟨_, c⟩ <;> omega)) ?_
  refine ev_bind (rFrac_eq h) ?_; try dsimp only
  refine Ev.bind (tp) ?_; try dsimp only
  refine ev_bind (rLow_eq h) ?_; try dsimp only
  have w1 : wrap64 ((fb f : Int) + 1) = ((pr f : Nat) : Int) := by unfold wrap64; omega
  rw [w1]
  clear w1
  have w2 : wrap64 (e + ((bl z.natAbs : Nat) : Int) - ((pr f : Nat) : Int)) = e + ((bl z.natAbs : Nat) : Int) - ((pr f : Nat) : Int) := by unfold wrap64; omega
  rw [w2]
  clear w2
  by_cases c : e + ((bl z.natAbs : Nat) : Int) - ((pr f : Nat) : Int) < lo f
  · refine ev_pos c ?_
    refine ev_bind (rLow_eq h) ?_; try dsimp only
    have : lo f = unitR f z.natAbs e := by omega
    rw [this]
    exact j
  · refine ev_neg c ?_
    have : unitR f z.natAbs e = e + ((bl z.natAbs : Nat) : Int) - ((pr f : Nat) : Int) := by omega
    rw [this] at j
    exact j
end Go.Proofs.YtbcjdlljmhfhdaaGreatDoor.Eng.K

/- Rounding, the program: the first bits of a number, and what is behind them. -/
set_option linter.unusedVariables false
set_option linter.unusedSimpArgs false
namespace Go.Proofs.YtbcjdlljmhfhdaaGreatDoor.Eng.K
open Go.RowKit

def bN (b : Bool) : Nat := if b = true then 1 else 0
/-- What is known of a size: its first bits H, and whether something is behind them; d of the bits below the unit. -/
theorem rnd_eq {m : Int} {s : Bool} {n k n' k' : Nat} (h1 : n / 2 ^ k = n' / 2 ^ k') (h2 : 2 ^ k ≤ 2 * (n % 2 ^ k) ↔ 2 ^ k' ≤ 2 * (n' % 2 ^ k')) (h3 : 2 * (n % 2 ^ k) % 2 ^ k = 0 ↔ 2 * (n' % 2 ^ k') % 2 ^ k' = 0) : rnd m s n k = rnd m s n' k' := by
  unfold rnd
  rw [h1, decide_eq_decide.2 h2, decide_eq_decide.2 (show 2 * (n % 2 ^ k) % 2 ^ k ≠ 0 ↔ 2 * (n' % 2 ^ k') % 2 ^ k' ≠ 0 from not_congr h3)]
theorem dbl_mod {x M : Nat} (h : x < M) : 2 * x % M = 0 ↔ x = 0 ∨ 2 * x = M := by
  by_cases c : 2 * x < M
  · rw [Nat.mod_eq_of_lt c]; omega
  · have : 2 * x % M = 2 * x - M := by rw [Nat.mod_eq_sub_mod (by omega), Nat.mod_eq_of_lt (by omega)]
    rw [this]; omega
theorem split_pow {H j r d : Nat} (hr : r < 2 ^ j) : (H * 2 ^ j + r) / 2 ^ (d + j) = H / 2 ^ d ∧ (H * 2 ^ j + r) % 2 ^ (d + j) = H % 2 ^ d * 2 ^ j + r := by
  have := shift_nat (X := H) (P := 2 ^ j) (Q := 2 ^ d) (c := r) (pw_pos j) hr
  rw [Nat.pow_add, Nat.mul_comm (2 ^ d)]
  exact ⟨this.1, by rw [this.2, Nat.mul_comm]⟩
/-- Only whether something is behind counts. -/
theorem rnd_sticky (m : Int) (s : Bool) {H j r d : Nat} (hr : r < 2 ^ j) (hd : 1 ≤ d) : rnd m s (H * 2 ^ j + r) (d + j) = rnd m s (2 * H + bN (decide (r ≠ 0))) (d + 1) := by
  have hb : bN (decide (r ≠ 0)) < 2 ^ 1 := by unfold bN; split <;> omega
  have hb0 : bN (decide (r ≠ 0)) = 0 ↔ r = 0 := by
    unfold bN
    by_cases c : r = 0
    · simp [c]
    · simp [c]
  have e0 : 2 * H + bN (decide (r ≠ 0)) = H * 2 ^ 1 + bN (decide (r ≠ 0)) := by omega
  rw [e0]
  generalize bN (decide (r ≠ 0)) = b at *
  obtain ⟨a1, a2⟩ := split_pow (H := H) (d := d) hr
  obtain ⟨b1, b2⟩ := split_pow (H := H) (d := d) hb
  have hh := Nat.mod_lt H (pw_pos d)
  have hj := pw_pos j
  obtain ⟨d', rfl⟩ : ∃ d', d = d' + 1 := ⟨d - 1, by omega⟩
  have he : 2 ^ (d' + 1) = 2 * 2 ^ d' := by rw [Nat.pow_succ, Nat.mul_comm]
  refine rnd_eq (by rw [a1, b1]) ?_ ?_
  · rw [a2, b2, Nat.pow_add 2 (d' + 1) j, Nat.pow_add 2 (d' + 1) 1, he]
    rw [he] at hh
    generalize H % (2 * 2 ^ d') = h at *
    generalize 2 ^ d' = p at *
    generalize 2 ^ j = q at *
    constructor
    · intro h1
      rcases Nat.lt_or_ge h p with c | c
      · exfalso
        have h2 : (h + 1) * q ≤ p * q := Nat.mul_le_mul_right _ c
        rw [Nat.add_mul, Nat.one_mul] at h2
        rw [Nat.mul_assoc] at h1
        omega
      · omega
    · intro h1
      have h2 : p * q ≤ h * q := Nat.mul_le_mul_right _ (by omega)
      rw [Nat.mul_assoc]; omega
  · have l1 : H % 2 ^ (d' + 1) * 2 ^ j + r < 2 ^ (d' + 1 + j) := by
      rw [Nat.pow_add 2 (d' + 1) j]
      have h2 : (H % 2 ^ (d' + 1) + 1) * 2 ^ j ≤ 2 ^ (d' + 1) * 2 ^ j := Nat.mul_le_mul_right _ hh
      rw [Nat.add_mul, Nat.one_mul] at h2
      omega
    have l2 : H % 2 ^ (d' + 1) * 2 ^ 1 + b < 2 ^ (d' + 1 + 1) := by rw [Nat.pow_add 2 (d' + 1) 1]; omega
    rw [a2, b2, dbl_mod l1, dbl_mod l2, Nat.pow_add 2 (d' + 1) j, Nat.pow_add 2 (d' + 1) 1, he]
    rw [he] at hh
    generalize H % (2 * 2 ^ d') = h at *
    generalize 2 ^ d' = p at *
    generalize 2 ^ j = q at *
    constructor
    · rintro (h1 | h1)
      · have h2 : h * q = 0 := by omega
        rcases Nat.mul_eq_zero.1 h2 with h3 | h3
        · left; have := hb0.2 (by omega); omega
        · omega
      · right
        rw [Nat.mul_assoc] at h1
        rcases Nat.lt_trichotomy h p with c | c | c
        · have h2 : (h + 1) * q ≤ p * q := Nat.mul_le_mul_right _ c
          rw [Nat.add_mul, Nat.one_mul] at h2
          omega
        · subst c
          have := hb0.2 (by omega)
          omega
        · have h2 : (p + 1) * q ≤ h * q := Nat.mul_le_mul_right _ c
          rw [Nat.add_mul, Nat.one_mul] at h2
          omega
    · rintro (h1 | h1)
      · left
        have h2 : h = 0 := by omega
        have h3 := hb0.1 (by omega)
        rw [h2, h3]; omega
      · right
        have h2 : h = p := by omega
        have h3 := hb0.1 (by omega)
        rw [h2, h3, Nat.mul_assoc]; omega
theorem ex_sticky {H j r d : Nat} (hr : r < 2 ^ j) : (H * 2 ^ j + r) % 2 ^ (d + j) = 0 ↔ (2 * H + bN (decide (r ≠ 0))) % 2 ^ (d + 1) = 0 := by
  have hb : bN (decide (r ≠ 0)) < 2 ^ 1 := by unfold bN; split <;> omega
  have hb0 : bN (decide (r ≠ 0)) = 0 ↔ r = 0 := by
    unfold bN
    by_cases c : r = 0
    · simp [c]
    · simp [c]
  have e0 : 2 * H + bN (decide (r ≠ 0)) = H * 2 ^ 1 + bN (decide (r ≠ 0)) := by omega
  rw [e0]
  generalize bN (decide (r ≠ 0)) = b at *
  rw [(split_pow (H := H) (d := d) hr).2, (split_pow (H := H) (d := d) hb).2]
  have hj := pw_pos j
  constructor
  · intro h
    have h2 : H % 2 ^ d * 2 ^ j = 0 := by omega
    rcases Nat.mul_eq_zero.1 h2 with h3 | h3
    · have := hb0.2 (by omega); omega
    · omega
  · intro h
    have h2 : H % 2 ^ d = 0 := by omega
    have h3 := hb0.1 (by omega)
    rw [h2, h3]; omega
/-- In units of 2^E, of first bits H with their top at T. -/
def UP (m : Int) (s : Bool) (H : Nat) (T : Int) (b : Bool) (E : Int) : Nat := rnd m s (2 * H + bN b) ((E - T + 64).toNat + 1)
def XP (H : Nat) (T : Int) (b : Bool) (E : Int) : Bool := decide ((2 * H + bN b) % 2 ^ ((E - T + 64).toNat + 1) = 0)
/-- A number's first 64 bits. -/
def hd64 (n : Nat) : Nat := n * 2 ^ (64 - bl n) / 2 ^ (bl n - 64)
def mr64 (n : Nat) : Bool := decide (n % 2 ^ (bl n - 64) ≠ 0)
theorem hd64_b {n : Nat} (h : n ≠ 0) : 2 ^ 63 ≤ hd64 n ∧ hd64 n < 2 ^ 64 := by
  have h1 := lt_bl n
  have h2 := bl_le h
  have hp := bl_pos h
  unfold hd64
  by_cases c : bl n ≤ 64
  · have e1 : bl n - 64 = 0 := by omega
    rw [e1, Nat.pow_zero, Nat.div_one]
    have h3 : 2 ^ (bl n - 1) * 2 ^ (64 - bl n) ≤ n * 2 ^ (64 - bl n) := Nat.mul_le_mul_right _ h2
    have h4 : n * 2 ^ (64 - bl n) < 2 ^ bl n * 2 ^ (64 - bl n) := Nat.mul_lt_mul_of_pos_right h1 (pw_pos _)
    rw [← Nat.pow_add] at h3 h4
    rw [show bl n - 1 + (64 - bl n) = 63 by omega] at h3
    rw [show bl n + (64 - bl n) = 64 by omega] at h4
    exact ⟨h3, h4⟩
  · have e1 : 64 - bl n = 0 := by omega
    rw [e1, Nat.pow_zero, Nat.mul_one]
    constructor
    · rw [Nat.le_div_iff_mul_le (pw_pos _), ← Nat.pow_add, show 63 + (bl n - 64) = bl n - 1 by omega]; exact h2
    · rw [Nat.div_lt_iff_lt_mul (pw_pos _), ← Nat.pow_add, show 64 + (bl n - 64) = bl n by omega]; exact h1
theorem UP_R (m : Int) (s : Bool) {n : Nat} (hn : n ≠ 0) {e E : Int} (h : 1 ≤ E - (e + (bl n : Nat)) + 64) : UP m s (hd64 n) (e + (bl n : Nat)) (mr64 n) E = R m s n e E ∧ XP (hd64 n) (e + (bl n : Nat)) (mr64 n) E = exR n e E := by
  have hp := bl_pos hn
  generalize hd : (E - (e + (bl n : Nat)) + 64).toNat = d
  by_cases c : 64 ≤ bl n
  · have e1 : 64 - bl n = 0 := by omega
    have hH : hd64 n = n / 2 ^ (bl n - 64) := by unfold hd64; rw [e1, Nat.pow_zero, Nat.mul_one]
    have hsp : n = hd64 n * 2 ^ (bl n - 64) + n % 2 ^ (bl n - 64) := by
      rw [hH]
      have := Nat.div_add_mod n (2 ^ (bl n - 64))
      rw [Nat.mul_comm] at this
      exact this.symm
    have hr := Nat.mod_lt n (pw_pos (bl n - 64))
    have hk : (E - e).toNat = d + (bl n - 64) := by omega
    have hz : (e - E).toNat = 0 := by omega
    have st := rnd_sticky m s (H := hd64 n) (d := d) hr (by omega)
    have ex := ex_sticky (H := hd64 n) (d := d) hr
    rw [← hsp] at st ex
    unfold UP XP R exR mr64
    rw [hd, hk, hz, Nat.pow_zero, Nat.mul_one]
    exact ⟨st.symm, decide_eq_decide.2 ex.symm⟩
  · have e1 : bl n - 64 = 0 := by omega
    have hH : hd64 n = n * 2 ^ (64 - bl n) := by unfold hd64; rw [e1, Nat.pow_zero, Nat.div_one]
    have hm : mr64 n = false := by unfold mr64; rw [e1, Nat.pow_zero, Nat.mod_one]; rfl
    have hR := R_up m s n (e - (64 - bl n : Nat)) E (64 - bl n)
    have hX := exR_up n (e - (64 - bl n : Nat)) E (64 - bl n)
    rw [show e - ((64 - bl n : Nat) : Int) + ((64 - bl n : Nat) : Int) = e by omega, ← hH] at hR hX
    rw [← hR, ← hX, hm]
    unfold UP XP R exR bN
    rw [if_neg (by simp), Nat.add_zero, hd, show (e - ((64 - bl n : Nat) : Int) - E).toNat = 0 by omega, show (E - (e - ((64 - bl n : Nat) : Int))).toNat = d by omega, Nat.pow_zero, Nat.mul_one]
    have := rnd_up m s (hd64 n) d 1
    rw [Nat.pow_one, Nat.mul_comm] at this
    refine ⟨this, ?_⟩
    apply decide_eq_decide.2
    rw [Nat.pow_succ, Nat.mul_comm 2, Nat.mul_mod_mul_right]
    omega
end Go.Proofs.YtbcjdlljmhfhdaaGreatDoor.Eng.K

/- Rounding, the program: units, the word, the flags. -/
set_option linter.unusedVariables false
set_option linter.unusedSimpArgs false
namespace Go.Proofs.YtbcjdlljmhfhdaaGreatDoor.Eng.K
open Go.RowKit

theorem up_eq (m : Int) (s odd half more : Bool) : round_up.f m s odd half more = some (upB m s odd half more) := by
  unfold round_up.f upB
  by_cases c1 : m = 1
  · rw [if_pos c1, if_pos c1]; cases more <;> cases odd <;> cases half <;> rfl
  rw [if_neg c1, if_neg c1]
  by_cases c2 : m = 2
  · rw [if_pos c2, if_pos c2]
  rw [if_neg c2, if_neg c2]
  by_cases c4 : m = 4
  · rw [if_pos c4, if_pos c4]; cases s <;> cases half <;> cases more <;> rfl
  rw [if_neg c4, if_neg c4]
  by_cases c5 : m = 5
  · rw [if_pos c5, if_pos c5]; cases s <;> cases half <;> cases more <;> rfl
  · rw [if_neg c5, if_neg c5]
theorem btoi_eq (b : Bool) : round_btoi.f b = some (bN b : Int) := by cases b <;> rfl
theorem and1 (a : Nat) (ha : a < 18446744073709551616) : Go.bits .and .u64 (a : Int) 1 = ((a % 2 : Nat) : Int) := and_low a 1 ha (by omega)
theorem units_j2 (m : Int) (s : Bool) {W : Nat} (hW : W < 9223372036854775808) (half more : Bool) : Ev (fun k => round_part_units.j2 k m s (W : Int) half more) (((W + bN (upB m s (decide (W % 2 = 1)) half more) : Nat) : Int), !half && !more) := by
  have hb : bN (upB m s (decide (W % 2 = 1)) half more) ≤ 1 := by unfold bN; split <;> omega
  refine ev_step ?_
  simp only [round_part_units.j2]
  rw [and1 W (by omega)]
  have e1 : decide (((W % 2 : Nat) : Int) = 1) = decide (W % 2 = 1) := decide_eq_decide.2 (by omega)
  rw [e1]
  refine ev_bind (up_eq _ _ _ _ _) ?_; try dsimp only
  refine ev_bind (btoi_eq _) ?_; try dsimp only
  rw [← Int.natCast_add, u64_n (by omega)]
  cases half
  · exact ev_pos rfl (Ev.now _)
  · exact ev_neg (by simp) (Ev.now _)
/-- The bits about the unit. -/
theorem bits_about {H d : Nat} (b : Bool) (hd : 1 ≤ d) : (2 * H + bN b) / 2 ^ (d + 1) = H / 2 ^ d ∧
    decide (2 ^ (d + 1) ≤ 2 * ((2 * H + bN b) % 2 ^ (d + 1))) = decide (H / 2 ^ (d - 1) % 2 = 1) ∧
    decide (2 * ((2 * H + bN b) % 2 ^ (d + 1)) % 2 ^ (d + 1) ≠ 0) = (b || decide (H % 2 ^ (d - 1) ≠ 0)) ∧
    decide ((2 * H + bN b) % 2 ^ (d + 1) = 0) = (!decide (H / 2 ^ (d - 1) % 2 = 1) && !(b || decide (H % 2 ^ (d - 1) ≠ 0))) := by
  have hb : bN b < 2 ^ 1 := by unfold bN; split <;> omega
  have hb0 : bN b = 0 ↔ b = false := by unfold bN; cases b <;> simp
  have hb1 : bN b ≤ 1 := by unfold bN; split <;> omega
  obtain ⟨d', rfl⟩ : ∃ d', d = d' + 1 := ⟨d - 1, by omega⟩
  have hs := split_pow (H := H) (d := d' + 1) hb
  have e0 : H * 2 ^ 1 + bN b = 2 * H + bN b := by omega
  rw [e0] at hs
  have hm : H % 2 ^ (d' + 1) = H % 2 ^ d' + 2 ^ d' * (H / 2 ^ d' % 2) := by rw [Nat.pow_succ, Nat.mod_mul]
  have hl := Nat.mod_lt H (pw_pos d')
  have h2 : H / 2 ^ d' % 2 = 0 ∨ H / 2 ^ d' % 2 = 1 := by omega
  have hp : 2 ^ (d' + 1 + 1) = 4 * 2 ^ d' := by rw [Nat.pow_succ, Nat.pow_succ]; omega
  have hx : H % 2 ^ (d' + 1) * 2 ^ 1 + bN b < 4 * 2 ^ d' := by
    rw [hm]; rcases h2 with h | h <;> rw [h] <;> omega
  rw [hs.1, hs.2, hp]
  rw [show d' + 1 - 1 = d' from rfl]
  refine ⟨rfl, ?_, ?_, ?_⟩
  · apply decide_eq_decide.2
    rw [hm]; rcases h2 with h | h <;> rw [h] <;> constructor <;> intro h3 <;> omega
  · have e3 : (b || decide (H % 2 ^ d' ≠ 0)) = decide (¬ (bN b = 0 ∧ H % 2 ^ d' = 0)) := by
      by_cases c : H % 2 ^ d' = 0
      · cases b <;> simp [c, bN]
      · cases b <;> simp [c, bN]
    rw [e3]
    apply decide_eq_decide.2
    apply not_congr
    rw [dbl_mod hx, hm]
    rcases h2 with h | h <;> rw [h] <;> constructor
    · rintro (h3 | h3) <;> omega
    · rintro ⟨h3, h4⟩; left; omega
    · rintro (h3 | h3) <;> omega
    · rintro ⟨h3, h4⟩; right; omega
  · have e3 : (!decide (H / 2 ^ d' % 2 = 1) && !(b || decide (H % 2 ^ d' ≠ 0))) = decide (¬ (H / 2 ^ d' % 2 = 1) ∧ (bN b = 0 ∧ H % 2 ^ d' = 0)) := by
      by_cases c : H % 2 ^ d' = 0
      · rcases h2 with h | h <;> cases b <;> simp [c, h, bN]
      · rcases h2 with h | h <;> cases b <;> simp [c, h, bN]
    rw [e3]
    apply decide_eq_decide.2
    rw [hm]
    rcases h2 with h | h <;> rw [h] <;> constructor <;> intro h3 <;> omega
theorem units_ev (m : Int) (s : Bool) {H : Nat} (hH : 2 ^ 63 ≤ H ∧ H < 2 ^ 64) {T E : Int} (b : Bool) (hd : 1 ≤ E - T + 64) (h1 : -1000000000 ≤ T) (h2 : T ≤ 1000000000) (h3 : -1000000000 ≤ E) (h4 : E ≤ 1000000000) :
    Ev (fun k => round_part_units.f k (H : Int) T b m s E) ((UP m s H T b E : Int), XP H T b E) := by
  have ew : wrap64 (wrap64 (E - T) + 64) = E - T + 64 := by unfold wrap64; omega
  unfold round_part_units.f
  rw [ew]
  clear ew
  obtain ⟨d, hdd⟩ := Int.eq_ofNat_of_zero_le (show 0 ≤ E - T + 64 by omega)
  have hdn : (E - T + 64).toNat = d := by omega
  unfold UP XP
  rw [hdn, hdd]
  rw [hdd] at hd
  clear hdn hdd
  have hd1 : 1 ≤ d := by omega
  have hbb : bN b ≤ 1 := by unfold bN; split <;> omega
  by_cases c : d > 64
  · have hp : 2 ^ 66 ≤ 2 ^ (d + 1) := Nat.pow_le_pow_right (by omega) (by omega)
    have e1 : rnd m s (2 * H + bN b) (d + 1) = bN (upB m s false false true) := by
      unfold rnd
      rw [Nat.div_eq_of_lt (by omega), Nat.mod_eq_of_lt (a := 2 * H + bN b) (by omega), Nat.mod_eq_of_lt (a := 2 * (2 * H + bN b)) (by omega)]
      rw [decide_eq_false (by omega : ¬ (0 % 2 = 1)), decide_eq_false (by omega : ¬ (2 ^ (d + 1) ≤ 2 * (2 * H + bN b))), decide_eq_true (by omega : 2 * (2 * H + bN b) ≠ 0), Nat.zero_add]
      rfl
    have e2 : decide ((2 * H + bN b) % 2 ^ (d + 1) = 0) = false := decide_eq_false (by rw [Nat.mod_eq_of_lt (by omega)]; omega)
    rw [e1, e2]
    refine ev_pos (by omega) ?_
    refine ev_bind (up_eq _ _ _ _ _) ?_; try dsimp only
    refine ev_bind (btoi_eq _) ?_; try dsimp only
    exact Ev.now _
  refine ev_neg (by omega) ?_
  obtain ⟨a1, a2, a3, a4⟩ := bits_about (H := H) b hd1
  have e1 : rnd m s (2 * H + bN b) (d + 1) = H / 2 ^ d + bN (upB m s (decide (H / 2 ^ d % 2 = 1)) (decide (H / 2 ^ (d - 1) % 2 = 1)) (b || decide (H % 2 ^ (d - 1) ≠ 0))) := by
    unfold rnd
    rw [a1, a2, a3]; rfl
  rw [e1, a4]
  clear a1 a2 a3 a4 e1
  have hW : H / 2 ^ d < 9223372036854775808 := by
    rw [Nat.div_lt_iff_lt_mul (pw_pos d)]
    have : 2 ^ 1 ≤ 2 ^ d := Nat.pow_le_pow_right (by omega) hd1
    have := Nat.mul_le_mul_left 9223372036854775808 this
    omega
  have last : Ev (fun k => round_part_units.j1 k m s (H : Int) T b (d : Int) ((H / 2 ^ d : Nat) : Int) false b) (((H / 2 ^ d + bN (upB m s (decide (H / 2 ^ d % 2 = 1)) (decide (H / 2 ^ (d - 1) % 2 = 1)) (b || decide (H % 2 ^ (d - 1) ≠ 0))) : Nat) : Int), (!decide (H / 2 ^ (d - 1) % 2 = 1) && !(b || decide (H % 2 ^ (d - 1) ≠ 0)))) := by
    have ew : wrap64 ((d : Int) - 1) = ((d - 1 : Nat) : Int) := by unfold wrap64; omega
    have hp64 : 2 ^ (d - 1) ≤ 2 ^ 63 := Nat.pow_le_pow_right (by omega) (by omega)
    have hpp := pw_pos (d - 1)
    have hq : H / 2 ^ (d - 1) ≤ H := Nat.div_le_self _ _
    refine ev_step ?_
    simp only [round_part_units.j1]
    rw [ew]
    clear ew
    rw [shr_n H (d - 1) (by show d - 1 ≤ 64; omega), and1 _ (by omega)]
    have e2 : decide (((H / 2 ^ (d - 1) % 2 : Nat) : Int) = 1) = decide (H / 2 ^ (d - 1) % 2 = 1) := decide_eq_decide.2 (by omega)
    have e3 : shl .u64 1 ((d - 1 : Nat) : Int) = ((2 ^ (d - 1) : Nat) : Int) := by
      have := shl_u64 (X := 1) (s := d - 1) (by omega) (by omega)
      rw [Nat.one_mul] at this
      exact this
    have e4 : IntKind.u64.wrap (((2 ^ (d - 1) : Nat) : Int) - 1) = ((2 ^ (d - 1) - 1 : Nat) : Int) := by
      rw [show ((2 ^ (d - 1) : Nat) : Int) - 1 = ((2 ^ (d - 1) - 1 : Nat) : Int) by omega]
      exact u64_n (by omega)
    have e5 : decide (¬ (((H % 2 ^ (d - 1) : Nat) : Int) = 0)) = decide (H % 2 ^ (d - 1) ≠ 0) := decide_eq_decide.2 (by omega)
    rw [e2, e3, e4, and_low H (d - 1) (by omega) (by omega), e5]
    refine ev_pos (by omega) (ev_pos (by omega) ?_)
    cases b
    · refine ev_neg (by simp) (ev_pos (by omega) ?_)
      exact units_j2 m s hW _ _
    · refine ev_pos rfl ?_
      exact units_j2 m s hW _ _
  by_cases c2 : d < 64
  · refine ev_pos (by omega) (ev_pos (by omega) ?_)
    rw [shr_n H d (by show d ≤ 64; omega)]
    exact last
  · have hd64 : d = 64 := by omega
    have e0 : H / 2 ^ d = 0 := Nat.div_eq_of_lt (by rw [hd64]; exact hH.2)
    refine ev_neg (by omega) ?_
    rw [e0] at last ⊢
    exact last
/-! ### the word -/
/-- What rounding comes to, of a top and of what is taken in each unit. -/
def roundG (f m : Int) (s : Bool) (T : Int) (U : Int → Nat) (X : Int → Bool) : Int × Int :=
  if (bl (U (max (T - (pr f : Nat)) (lo f))) : Int) + max (T - (pr f : Nat)) (lo f) > wd f then ((overW f m s : Int), 20)
  else ((((if U (max (T - (pr f : Nat)) (lo f)) = 0 then 0 else encN f (U (max (T - (pr f : Nat)) (lo f))) (max (T - (pr f : Nat)) (lo f))) + sgn f s : Nat) : Int),
    if X (max (T - (pr f : Nat)) (lo f)) = true then 0
    else if (bl (U (T - (pr f : Nat))) : Int) + (T - (pr f : Nat)) < lo f + (pr f : Nat) then 24 else 16)
theorem roundG_S (f m : Int) (s : Bool) (n : Nat) (e : Int) : roundG f m s (e + (bl n : Nat)) (R m s n e) (exR n e) = roundS f m s n e := rfl
theorem roundG_congr {f m : Int} {s : Bool} {T : Int} {U U' : Int → Nat} {X X' : Int → Bool} (h : ∀ E, T - (pr f : Nat) ≤ E → U E = U' E ∧ X E = X' E) : roundG f m s T U X = roundG f m s T U' X' := by
  unfold roundG
  rw [(h (max (T - (pr f : Nat)) (lo f)) (by omega)).1, (h (max (T - (pr f : Nat)) (lo f)) (by omega)).2, (h (T - (pr f : Nat)) (by omega)).1]
theorem formOf_eq {f : Int} (h : isF f) : round_formOf.f f = some ((pr f : Int), lo f, wd f, true) := by rcases h with rfl | rfl <;> rfl
theorem formOf_bad {f : Int} (h : ¬ isF f) : round_formOf.f f = some (0, 0, 0, false) := by
  unfold round_formOf.f
  rw [if_neg (fun e => h (.inl e)), if_neg (fun e => h (.inr e))]
/-- The error of a format or a mode that is none. -/
def fmE (f m : Int) : Int := if isF f then (if isM m then 0 else 5) else 4
theorem open_good {f m : Int} (h : isF f) (hm : isM m) : Ev (fun k => round_open.f k f m []) ((pr f : Int), lo f, wd f, 0) := by
  unfold round_open.f
  unfold isM at hm
  refine ev_bind (formOf_eq h) ?_; try dsimp only
  refine ev_neg (by simp) (ev_neg (by omega) (ev_neg (by omega) ?_))
  refine ev_step ?_
  simp only [round_open.l0]
  exact ev_neg (by simp) (Ev.now _)
theorem open_bad {f m : Int} (h : fmE f m ≠ 0) : ∃ r : Int × Int × Int × Int, r.2.2.2 = fmE f m ∧ Ev (fun k => round_open.f k f m []) r ∧ ∀ d, Ev (fun k => round_open.f k f m [d]) r := by
  unfold fmE at *
  by_cases c : isF f
  · rw [if_pos c] at h ⊢
    by_cases hm : isM m
    · rw [if_pos hm] at h; exact absurd rfl h
    · rw [if_neg hm]
      unfold isM at hm
      have : ∀ l, Ev (fun k => round_open.f k f m l) ((pr f : Int), lo f, wd f, 5) := by
        intro l
        unfold round_open.f
        refine ev_bind (formOf_eq c) ?_; try dsimp only
        refine ev_neg (by simp) ?_
        by_cases c : m < 1
        · exact ev_pos c (Ev.now _)
        · exact ev_neg c (ev_pos (by omega) (Ev.now _))
      exact ⟨((pr f : Int), lo f, wd f, 5), rfl, this _, fun d => this _⟩
  · rw [if_neg c]
    have : ∀ l, Ev (fun k => round_open.f k f m l) (0, 0, 0, 4) := by
      intro l
      unfold round_open.f
      refine ev_bind (formOf_bad c) ?_; try dsimp only
      exact ev_pos (by simp) (Ev.now _)
    exact ⟨(0, 0, 0, 4), rfl, this _, fun d => this _⟩
theorem open_one {f m : Int} (h : isF f) (hm : isM m) {s : Bool} {l : List Int} {e : Int} (hd : My s l e) : Ev (fun k => round_open.f k f m [(s, l, e)]) ((pr f : Int), lo f, wd f, 0) := by
  unfold round_open.f
  unfold isM at hm
  refine ev_bind (formOf_eq h) ?_; try dsimp only
  refine ev_neg (by simp) (ev_neg (by omega) (ev_neg (by omega) ?_))
  have e1 : wrap64 (0 + 1) = 1 := by rw [w64n (by omega) (by omega)]; rfl
  have el : (([(s, l, e)] : List (Bool × List Int × Int)).length : Int) = 1 := rfl
  have r0 : rdT [.b, .is .u32, .i .i64] [(s, l, e)] 0 = (s, l, e) := rfl
  refine ev_step ?_
  simp only [round_open.l0, el, e1, r0]
  clear e1
  refine ev_pos (by omega) (ev_pos (by omega) (ev_pos (by omega) ?_))
  refine ev_bind (dyad_May_true hd) ?_; try dsimp only
  refine ev_neg (by simp) (ev_step ?_)
  simp only [round_open.l0]
  exact ev_neg (by omega) (Ev.now _)
theorem Over_j1 {f : Int} (h : isF f) (s b : Bool) : Ev (fun k => round_Over.j1 k f s b) ((((if b = true then mo f * 2 ^ fb f - 1 else mo f * 2 ^ fb f) + sgn f s : Nat) : Int), 0) := by
  refine ev_step ?_
  simp only [round_Over.j1]
  cases b
  · refine ev_neg (by simp) ?_
    refine Ev.bind (word_Inf_ev h s) ?_; try dsimp only
    exact Ev.now _
  · refine ev_pos rfl ?_
    refine Ev.bind (word_Greatest_ev h s) ?_; try dsimp only
    exact Ev.now _
theorem Over_ev {f m : Int} (h : isF f) (hm : isM m) (s : Bool) : Ev (fun k => round_Over.f k f m s) ((overW f m s : Int), 0) := by
  have j := fun b => Over_j1 h s b
  unfold round_Over.f overW
  refine Ev.bind (open_good h hm) ?_; try dsimp only
  refine ev_neg (by simp) ?_
  by_cases c3 : m = 3
  · refine ev_pos c3 ?_
    have e : inw m s = true := by unfold inw; simp [c3]
    rw [e]; exact j true
  refine ev_neg c3 ?_
  by_cases c4 : m = 4
  · refine ev_pos c4 ?_
    have e : inw m s = s := by unfold inw; simp [c4]
    rw [e]
    cases s
    · exact ev_neg (by simp) (ev_neg (by omega) (j false))
    · exact ev_pos rfl (j true)
  refine ev_neg c4 ?_
  by_cases c5 : m = 5
  · refine ev_pos c5 ?_
    have e : inw m s = !s := by unfold inw; simp [c5]
    rw [e]; exact j (!s)
  · refine ev_neg c5 ?_
    have e : inw m s = false := by unfold inw; simp [c3, c4, c5]
    rw [e]; exact j false
theorem Over_bad {f m : Int} (h : fmE f m ≠ 0) (s : Bool) : Ev (fun k => round_Over.f k f m s) (0, fmE f m) := by
  obtain ⟨r, hr, ho, _⟩ := open_bad h
  unfold round_Over.f
  refine Ev.bind (ho) ?_; try dsimp only
  rw [hr]
  exact ev_pos h (Ev.now _)
end Go.Proofs.YtbcjdlljmhfhdaaGreatDoor.Eng.K

/- Rounding, the program: a number as a word. -/
set_option linter.unusedVariables false
set_option linter.unusedSimpArgs false
namespace Go.Proofs.YtbcjdlljmhfhdaaGreatDoor.Eng.K
open Go.RowKit

theorem word_Of_zero {f : Int} (h : isF f) : Ev (fun k => word_Of.f k f false [] 0) (0, 0) := by
  have hm : My false [] 0 := ⟨⟨Nm_nil, fun _ => ⟨rfl, rfl⟩, fun h => absurd rfl h⟩, by simp, by omega, by omega⟩
  have hn := nat_Num_ev Dg.nil (by simp)
  have e1 : numB [] = true := numB_small Nm_nil (by simp)
  rw [e1, if_pos rfl] at hn
  have hl := len64_ev (x := 0) (by omega)
  have b0 : bl (Int.toNat 0) = 0 := bl_zero
  rw [b0] at hl
  have hfb := fb_le h
  have w1 : wrap64 ((fb f : Int) + 1) = (fb f : Int) + 1 := by unfold wrap64; omega
  unfold word_Of.f
  refine Ev.bind (word_open_nil h) ?_; try dsimp only
  refine ev_neg (fun h => h rfl) ?_
  refine ev_bind (dyad_May_true hm) ?_; try dsimp only
  refine ev_neg (by simp) ?_
  refine Ev.bind (hn) ?_; try dsimp only
  refine Ev.bind (hl) ?_; try dsimp only
  rw [w1]
  clear w1
  refine ev_neg (by simp) (ev_neg (by omega) (ev_neg (by simp) ?_))
  exact ev_pos rfl (Ev.now _)
theorem UP_le {m : Int} {s : Bool} {H : Nat} (hH : H < 2 ^ 64) {T E : Int} {b : Bool} {p : Nat} (hp : p ≤ 64) (h : T - (p : Nat) ≤ E) : UP m s H T b E ≤ 2 ^ p := by
  have hb : bN b ≤ 1 := by unfold bN; split <;> omega
  have h1 : (2 * H + bN b) / 2 ^ ((E - T + 64).toNat + 1) < 2 ^ p := by
    rw [Nat.div_lt_iff_lt_mul (pw_pos _), ← Nat.pow_add]
    have : 2 ^ 65 ≤ 2 ^ (p + ((E - T + 64).toNat + 1)) := Nat.pow_le_pow_right (by omega) (by omega)
    omega
  unfold UP rnd
  split <;> omega
theorem word_of_size {f : Int} (h : isF f) (s : Bool) {q : Nat} {E : Int} (hq : q ≤ 2 ^ pr f) (hE : lo f ≤ E) (hw : (bl q : Int) + E ≤ wd f) (h0 : q ≠ 0) : Ev (fun k => word_Of.f k f (mk (sv s q) E).1 (mk (sv s q) E).2.1 (mk (sv s q) E).2.2) (((encN f q E + sgn f s : Nat) : Int), 0) := by
  have hpr := pr_eq h
  have hfb := fb_le h
  have hl := lo_b h
  have hwb := wd_b h
  have h2 := (odd_bl h0 hq).resolve_right (by omega)
  have h3 := top_lw h0
  have hdy := Dy_mk (sv s q) E
  rw [mk_sv s h0] at hdy ⊢
  have hne : D (q / 2 ^ lw q) ≠ [] := by
    intro hc
    have h1 : V (D (q / 2 ^ lw q)) = 0 := by rw [hc]; rfl
    rw [V_D] at h1
    rw [h1, bl_zero] at h3
    have := lw_lt h0
    omega
  have hmy : My s (D (q / 2 ^ lw q)) (E + (lw q : Nat)) := ⟨hdy, len_bl (by omega), by omega, by omega⟩
  have := word_Of_ev h hmy hne (by rw [V_D]; exact h2) (by omega) (by rw [V_D]; omega)
  rw [V_D] at this
  exact this
theorem part_j1 {f m : Int} (h : isF f) (s : Bool) {H : Nat} (hH : 2 ^ 63 ≤ H ∧ H < 2 ^ 64) {T : Int} (b : Bool) (h1 : -100000000 ≤ T) (h2 : T ≤ 100000000) (x : Bool) (w : Int) :
    Ev (fun k => round_part_word.j1 k m s (H : Int) T b (pr f : Int) (lo f) (wd f) x w) (w, if x = true then 0 else if (bl (UP m s H T b (T - (pr f : Nat))) : Int) + (T - (pr f : Nat)) < lo f + (pr f : Nat) then 24 else 16) := by
  have hpr := pr_eq h
  have hfb := fb_le h
  have hl := lo_b h
  have hu := units_ev m s hH (T := T) (E := T - (pr f : Nat)) b (by omega) (by omega) (by omega) (by omega) (by omega)
  have hle := UP_le (m := m) (s := s) (H := H) (b := b) hH.2 (T := T) (E := T - (pr f : Nat)) (p := pr f) (by omega) (Int.le_refl _)
  have h2f := two_fb h
  have hlen := len64_ev (x := (UP m s H T b (T - (pr f : Nat)) : Int)) ⟨by omega, by omega⟩
  rw [Int.toNat_natCast] at hlen
  have hb : bl (UP m s H T b (T - (pr f : Nat))) ≤ 64 := bl_le_of_lt (by omega)
  refine ev_step ?_
  simp only [round_part_word.j1]
  cases x
  · refine ev_neg (by simp) ?_
    have w0 : wrap64 (T - ((pr f : Nat) : Int)) = T - ((pr f : Nat) : Int) := by unfold wrap64; omega
    rw [w0]
    clear w0
    refine Ev.bind (hu) ?_; try dsimp only
    refine Ev.bind (hlen) ?_; try dsimp only
    have w1 : wrap64 (wrap64 ((bl (UP m s H T b (T - (pr f : Nat))) : Int) + T) - ((pr f : Nat) : Int)) = (bl (UP m s H T b (T - (pr f : Nat))) : Int) + (T - (pr f : Nat)) := by unfold wrap64; omega
    have w2 : wrap64 (lo f + ((pr f : Nat) : Int)) = lo f + ((pr f : Nat) : Int) := by clear w1; unfold wrap64; omega
    rw [w1, w2]
    clear w1 w2
    rw [if_neg Bool.false_ne_true]
    by_cases c : (bl (UP m s H T b (T - (pr f : Nat))) : Int) + (T - (pr f : Nat)) < lo f + (pr f : Nat)
    · exact ev_pos c (ev_eq (Ev.now _) (by rw [if_pos c]))
    · exact ev_neg c (ev_eq (Ev.now _) (by rw [if_neg c]))
  · exact ev_pos rfl (Ev.now _)
theorem part_word_ev {f m : Int} (h : isF f) (hm : isM m) (s : Bool) {H : Nat} (hH : 2 ^ 63 ≤ H ∧ H < 2 ^ 64) {T : Int} (b : Bool) (h1 : -100000000 ≤ T) (h2 : T ≤ 100000000) :
    Ev (fun k => round_part_word.f k (H : Int) T b f (pr f : Int) (lo f) (wd f) m s) (roundG f m s T (UP m s H T b) (XP H T b)) := by
  have hpr := pr_eq h
  have hfb := fb_le h
  have hl := lo_b h
  have hwb := wd_b h
  have h2f := two_fb h
  obtain ⟨E, hE⟩ : ∃ E, E = max (T - (pr f : Nat)) (lo f) := ⟨_, rfl⟩
  have hu := units_ev m s hH (T := T) (E := E) b (by omega) (by omega) (by omega) (by omega) (by omega)
  have hle := UP_le (m := m) (s := s) (H := H) (b := b) hH.2 (T := T) (E := E) (p := pr f) (by omega) (by omega)
  have hlen := len64_ev (x := (UP m s H T b E : Int)) ⟨by omega, by omega⟩
  rw [Int.toNat_natCast] at hlen
  have hb : bl (UP m s H T b E) ≤ 64 := bl_le_of_lt (by omega)
  have ho := nat_Of_ev (n := (UP m s H T b E : Int)) (by omega) (by omega)
  rw [Int.toNat_natCast] at ho
  have hj := part_j1 (m := m) h s hH (T := T) b h1 h2 (XP H T b E)
  have hwos := word_of_size h s (q := UP m s H T b E) (E := E) hle (by omega)
  have em : mx (wrap64 (T - ((pr f : Nat) : Int))) (lo f) = E := by rw [mx_eq, wsubx (by omega) (by omega) (by omega) (by omega), hE]
  unfold round_part_word.f roundG
  rw [em, ← hE]
  clear em
  refine Ev.bind (hu) ?_; try dsimp only
  refine Ev.bind (hlen) ?_; try dsimp only
  have w1 : wrap64 ((bl (UP m s H T b E) : Int) + E) = (bl (UP m s H T b E) : Int) + E := waddx (by omega) (by omega) (by omega) (by omega)
  rw [w1]
  clear w1
  by_cases c : (bl (UP m s H T b E) : Int) + E > wd f
  · rw [if_pos c]
    refine ev_pos c ?_
    refine Ev.bind (Over_ev h hm s) ?_; try dsimp only
    exact Ev.now _
  rw [if_neg c]
  refine ev_neg c ?_
  refine Ev.bind (ho) ?_; try dsimp only
  have m1 := dyad_Make_ev s (Nm_D (UP m s H T b E)) (len_bl (by omega)) E
  rw [V_D, makeR_ok3 (by omega) (by omega)] at m1
  refine Ev.bind (m1) ?_; try dsimp only
  by_cases c0 : UP m s H T b E = 0
  · have hz := word_Of_zero h
    rw [if_pos c0]
    rw [c0, sv_zero, mk_zero]
    refine Ev.bind (hz) ?_; try dsimp only
    refine ev_pos rfl ?_
    refine Ev.bind (word_Zero_ev h s) ?_; try dsimp only
    rw [Nat.zero_add]
    exact hj _
  · rw [if_neg c0]
    refine Ev.bind (hwos (by omega) c0) ?_; try dsimp only
    refine ev_neg (by omega) ?_
    exact hj _
theorem partOf_ev {s : Bool} {l : List Int} {e : Int} (hd : My s l e) (h0 : V l ≠ 0) : Ev (fun k => round_partOf.f k s l e) ((hd64 (V l) : Int), e + (bl (V l) : Nat), mr64 (V l)) := by
  have hlen := hd.len
  have hb := bl_list hd.dy.nm.dg
  have hlo := hd.lo
  have hhi := hd.hi
  have hH := hd64_b h0
  unfold round_partOf.f
  refine Ev.bind (nat_Len_ev hd.dy.nm hlen) ?_; try dsimp only
  have w1 : wrap64 (e + ((bl (V l) : Nat) : Int)) = e + ((bl (V l) : Nat) : Int) := waddx (by omega) (by omega) (by omega) (by omega)
  have w2 : wrap64 (64 - ((bl (V l) : Nat) : Int)) = 64 - ((bl (V l) : Nat) : Int) := by clear w1; unfold wrap64; omega
  rw [w1, w2]
  clear w1 w2
  have hs := nat_Shift_ev hd.dy.nm hlen (64 - ((bl (V l) : Nat) : Int))
  have es : shiftR (V l) (64 - ((bl (V l) : Nat) : Int)) = (D (hd64 (V l)), mr64 (V l), 0) := by
    by_cases c : bl (V l) ≤ 64
    · have e1 : 64 - ((bl (V l) : Nat) : Int) = ((64 - bl (V l) : Nat) : Int) := by omega
      have e2 : bl (V l) - 64 = 0 := by omega
      rw [e1, shiftR_up (by omega)]
      unfold hd64 mr64
      rw [e2, Nat.pow_zero, Nat.div_one, Nat.mod_one]; rfl
    · have e1 : 64 - ((bl (V l) : Nat) : Int) = -((bl (V l) - 64 : Nat) : Int) := by omega
      have e2 : 64 - bl (V l) = 0 := by omega
      rw [e1, shiftR_down (by omega) (by omega)]
      unfold hd64 mr64
      rw [e2, Nat.pow_zero, Nat.mul_one]
  rw [es] at hs
  refine Ev.bind (hs) ?_; try dsimp only
  have hl2 : (D (hd64 (V l))).length ≤ 2 := D_lt (by omega)
  have hn := nat_Num_ev (Dg_D (hd64 (V l))) (by omega)
  rw [numB_small (Nm_D _) (by rw [V_D]; omega), if_pos rfl, V_D] at hn
  refine Ev.bind (hn) ?_; try dsimp only
  exact Ev.now _
theorem Round_ev {f m : Int} (h : isF f) (hm : isM m) {s : Bool} {l : List Int} {e : Int} (hd : My s l e) (h0 : V l ≠ 0) : Ev (fun k => round_Round.f k f m s l e) ((roundS f m s (V l) e).1, (roundS f m s (V l) e).2, 0) := by
  have hb := bl_list hd.dy.nm.dg
  have hlen := hd.len
  have hlo := hd.lo
  have hhi := hd.hi
  have hpr := pr_eq h
  have hfb := fb_le h
  have hp := part_word_ev h hm s (hd64_b h0) (T := e + (bl (V l) : Nat)) (mr64 (V l)) (by omega) (by omega)
  have hg : roundG f m s (e + (bl (V l) : Nat)) (UP m s (hd64 (V l)) (e + (bl (V l) : Nat)) (mr64 (V l))) (XP (hd64 (V l)) (e + (bl (V l) : Nat)) (mr64 (V l))) = roundS f m s (V l) e := by
    rw [← roundG_S]
    refine roundG_congr ?_
    intro E hE
    exact UP_R m s h0 (by omega)
  rw [hg] at hp
  unfold round_Round.f
  refine Ev.bind (open_one h hm hd) ?_; try dsimp only
  refine ev_neg (by simp) ?_
  refine Ev.bind (dyad_Sign_ev hd) ?_; try dsimp only
  refine ev_neg (by rw [sv_sign h0]; split <;> omega) ?_
  refine Ev.bind (partOf_ev hd h0) ?_; try dsimp only
  refine Ev.bind (hp) ?_; try dsimp only
  exact Ev.now _
end Go.Proofs.YtbcjdlljmhfhdaaGreatDoor.Eng.K

/- Words of one format as words of another; what is asked ahead. -/
set_option linter.unusedVariables false
set_option linter.unusedSimpArgs false
namespace Go.Proofs.YtbcjdlljmhfhdaaGreatDoor.Eng.K
open Go.RowKit

theorem roundS_up (f m : Int) (s : Bool) {n : Nat} (hn : n ≠ 0) (e : Int) (j : Nat) : roundS f m s (n * 2 ^ j) e = roundS f m s n (e + j) := by
  have hu : unitR f (n * 2 ^ j) e = unitR f n (e + j) := by unfold unitR; rw [bl_up hn]; congr 1; omega
  have hb : e + (bl (n * 2 ^ j) : Nat) - (pr f : Nat) = e + j + (bl n : Nat) - (pr f : Nat) := by rw [bl_up hn]; omega
  unfold roundS
  simp only [hu, hb, R_up, exR_up]
theorem roundS_mk (f m : Int) {z : Int} (hz : z ≠ 0) (e : Int) : roundS f m (mk z e).1 (V (mk z e).2.1) (mk z e).2.2 = roundS f m (decide (z < 0)) z.natAbs e := by
  have hza : z.natAbs ≠ 0 := by omega
  obtain ⟨q, hq⟩ := lw_is hza
  have hd : z.natAbs / 2 ^ lw z.natAbs = 2 * q + 1 := by
    have : z.natAbs / 2 ^ lw z.natAbs = 2 ^ lw z.natAbs * (2 * q + 1) / 2 ^ lw z.natAbs := by rw [← hq]
    rw [this, Nat.mul_div_cancel_left _ (pw_pos _)]
  unfold mk
  rw [if_neg hz]
  show roundS f m (decide (z < 0)) (V (D (z.natAbs / 2 ^ lw z.natAbs))) (e + (lw z.natAbs : Nat)) = _
  rw [V_D, ← roundS_up f m _ (by rw [hd]; omega), hd]
  congr 1
  rw [Nat.mul_comm]; exact hq.symm
/-- Not too long, not too far out, for the program. -/
structure Mg (z e : Int) : Prop where
  b : bl z.natAbs ≤ 131072
  lo : -16777216 ≤ e
  hi : e + (bl z.natAbs : Nat) ≤ 16777216
theorem my_of {z e : Int} (h : Mg z e) : My (mk z e).1 (mk z e).2.1 (mk z e).2.2 := My_mk h.lo h.hi h.b
theorem V_mk_ne {z : Int} (hz : z ≠ 0) (e : Int) : V (mk z e).2.1 ≠ 0 := by
  have := mz_ne hz e
  intro h
  unfold mz at this
  rw [h, sv_zero] at this
  exact this rfl
theorem Round_mk {f m : Int} (h : isF f) (hm : isM m) {z e : Int} (hz : z ≠ 0) (hg : Mg z e) : Ev (fun k => round_Round.f k f m (mk z e).1 (mk z e).2.1 (mk z e).2.2) ((roundS f m (decide (z < 0)) z.natAbs e).1, (roundS f m (decide (z < 0)) z.natAbs e).2, 0) := by
  have := Round_ev h hm (my_of hg) (V_mk_ne hz e)
  rw [roundS_mk f m hz e] at this
  exact this
/-! ### words that are numbers -/
theorem w_sv {s : Bool} {n : Nat} (h : n ≠ 0) : decide (sv s n < 0) = s ∧ (sv s n).natAbs = n ∧ sv s n ≠ 0 := ⟨sv_neg h, sv_abs s n, fun h2 => h (sv_eq_zero.1 h2)⟩
/-! ### errors ahead -/
/-! ### To -/
end Go.Proofs.YtbcjdlljmhfhdaaGreatDoor.Eng.K

