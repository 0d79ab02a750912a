import Derived.Test.YtbcjdlljmhfhdaaDoorQHexaMovedF1
import Derived.Lib.Strings
import Derived.Laws.RangeString
import Derived.Laws.BitsAllLaws
set_option linter.unusedVariables false
set_option linter.unusedSimpArgs false
/- Loops that answer from some number of rounds on. -/
namespace Go.Proofs.YtbcjdlljmhfhdaaDoor.Eng
def Ev {α : Type} (g : Nat → Option α) (r : α) : Prop := ∃ n, ∀ k, n ≤ k → g k = some r
theorem Ev.now {α : Type} (r : α) : Ev (fun _ => some r) r := ⟨0, fun _ _ => rfl⟩
theorem Ev.bind {α β : Type} {g : Nat → Option α} {f : Nat → α → Option β} {a : α} {r : β} (h : Ev g a) (k : Ev (fun n => f n a) r) : Ev (fun n => (g n).bind (f n)) r := by
  obtain ⟨n, hn⟩ := h
  obtain ⟨m, hm⟩ := k
  exact ⟨n + m, fun i hi => by show (g i).bind (f i) = some r; rw [hn i (by omega), Option.bind_some]; exact hm i (by omega)⟩
theorem Ev.step {α : Type} {g f : Nat → Option α} {r : α} (h : ∀ k, g (k + 1) = f k) (k : Ev f r) : Ev g r := by
  obtain ⟨n, hn⟩ := k
  refine ⟨n + 1, fun i hi => ?_⟩
  obtain ⟨i, rfl⟩ : ∃ j, i = j + 1 := ⟨i - 1, by omega⟩
  rw [h]; exact hn i (by omega)
end Go.Proofs.YtbcjdlljmhfhdaaDoor.Eng

/- Numbers as lists of digits to the base 2^32: their values, the normal list of a number; loops that answer from some number of rounds on. -/
set_option linter.unusedVariables false
set_option linter.unusedSimpArgs false
namespace Go.Proofs.YtbcjdlljmhfhdaaDoor.Eng.K
open Go.RowKit

/-! ### what the printed functions are made of -/
theorem w64 {n : Int} (h0 : -9223372036854775808 ≤ n) (h1 : n < 9223372036854775808) : wrap64 n = n := by unfold wrap64; omega
theorem w64n {n : Int} (h0 : 0 ≤ n) (h1 : n < 9223372036854775808) : wrap64 n = n := by unfold wrap64; omega
theorem u64 {n : Int} (h0 : 0 ≤ n) (h1 : n < 18446744073709551616) : IntKind.u64.wrap n = n := by
  simp [IntKind.wrap, IntKind.bits, IntKind.signed]; omega
theorem u64m (n : Int) : IntKind.u64.wrap n = n % 18446744073709551616 := by
  simp [IntKind.wrap, IntKind.bits, IntKind.signed]
theorem rdn (xs : List Int) (n : Nat) : rd xs (n : Int) = xs.getD n 0 := by simp [rd]
theorem rd_app {xs ys : List Int} {y : Int} {i : Int} (h : i = (xs.length : Int)) : rd (xs ++ y :: ys) i = y := by
  subst h; simp [rd]
theorem set_app {xs ys : List Int} {y z : Int} {i : Int} (h : i = (xs.length : Int)) : (xs ++ y :: ys).set i.toNat z = (xs ++ [z]) ++ ys := by
  subst h; simp
theorem ev_eq {α : Type} {g : Nat → Option α} {r s : α} (h : Ev g r) (e : r = s) : Ev g s := e ▸ h
theorem ev_const {α : Type} {x : Option α} {r : α} (h : x = some r) : Ev (fun _ => x) r := by subst h; exact Ev.now r
theorem ev_pos {α : Type} {c : Prop} {_ : Decidable c} {g f : Nat → Option α} {r : α} (h : c) (k : Ev g r) : Ev (fun n => if c then g n else f n) r := by
  simpa [h] using k
theorem ev_neg {α : Type} {c : Prop} {_ : Decidable c} {g f : Nat → Option α} {r : α} (h : ¬ c) (k : Ev f r) : Ev (fun n => if c then g n else f n) r := by
  simpa [h] using k
theorem ev_bind {α β : Type} {x : Option α} {f : Nat → α → Option β} {a : α} {r : β} (h : x = some a) (k : Ev (fun n => f n a) r) : Ev (fun n => x.bind (f n)) r := by
  subst h; exact k
theorem ev_step {α : Type} {g : Nat → Option α} {r : α} (k : Ev (fun n => g (n + 1)) r) : Ev g r := Ev.step (fun _ => rfl) k
/-- answers that are the same from some round on -/
theorem Ev.unique {α : Type} {g : Nat → Option α} {r s : α} (h : Ev g r) (k : Ev g s) : r = s := by
  obtain ⟨a, ha⟩ := h; obtain ⟨b, hb⟩ := k
  have h1 := ha (max a b) (Nat.le_max_left _ _); have h2 := hb (max a b) (Nat.le_max_right _ _)
  rw [h1] at h2; exact Option.some.inj h2

/-! ### values -/
def Dg (l : List Int) : Prop := ∀ x ∈ l, 0 ≤ x ∧ x < 4294967296
def V : List Int → Nat
  | [] => 0
  | d :: l => d.toNat + 4294967296 * V l
def D (n : Nat) : List Int := if h : n = 0 then [] else ((n % 4294967296 : Nat) : Int) :: D (n / 4294967296)
termination_by n
decreasing_by omega

theorem Dg.nil : Dg [] := fun _ h => by simp at h
theorem Dg.cons {d : Int} {l : List Int} (h0 : 0 ≤ d) (h1 : d < 4294967296) (h : Dg l) : Dg (d :: l) := fun x hx => by
  rcases List.mem_cons.1 hx with rfl | hx
  · exact ⟨h0, h1⟩
  · exact h x hx
theorem Dg.head {d : Int} {l : List Int} (h : Dg (d :: l)) : 0 ≤ d ∧ d < 4294967296 := h d (by simp)
theorem Dg.tail {d : Int} {l : List Int} (h : Dg (d :: l)) : Dg l := fun x hx => h x (by simp [hx])
theorem Dg.app {a b : List Int} (h : Dg a) (k : Dg b) : Dg (a ++ b) := fun x hx => by
  rcases List.mem_append.1 hx with hx | hx
  · exact h x hx
  · exact k x hx
theorem Dg.left {a b : List Int} (h : Dg (a ++ b)) : Dg a := fun x hx => h x (by simp [hx])
theorem Dg.right {a b : List Int} (h : Dg (a ++ b)) : Dg b := fun x hx => h x (by simp [hx])
theorem Dg.take {a : List Int} (h : Dg a) (n : Nat) : Dg (a.take n) := fun x hx => h x (List.mem_of_mem_take hx)
theorem Dg.drop {a : List Int} (h : Dg a) (n : Nat) : Dg (a.drop n) := fun x hx => h x (List.mem_of_mem_drop hx)
theorem Dg.zeros (n : Nat) : Dg (List.replicate n 0) := fun x hx => by
  obtain ⟨_, rfl⟩ := List.mem_replicate.1 hx; omega
theorem Dg.getD {a : List Int} (h : Dg a) (n : Nat) : 0 ≤ a.getD n 0 ∧ a.getD n 0 < 4294967296 := by
  rw [List.getD_eq_getElem?_getD]
  cases e : a[n]? with
  | none => simp
  | some x => simpa using h x (List.mem_of_getElem? e)
theorem Dg.set {a : List Int} (h : Dg a) (n : Nat) {x : Int} (h0 : 0 ≤ x) (h1 : x < 4294967296) : Dg (a.set n x) := fun y hy => by
  rcases List.mem_or_eq_of_mem_set hy with hy | rfl
  · exact h y hy
  · exact ⟨h0, h1⟩
@[simp] theorem V_nil : V [] = 0 := rfl
@[simp] theorem V_cons (d : Int) (l : List Int) : V (d :: l) = d.toNat + 4294967296 * V l := rfl
theorem V_append (a b : List Int) : V (a ++ b) = V a + 4294967296 ^ a.length * V b := by
  induction a with
  | nil => simp
  | cons d a ih => simp [ih, Nat.pow_succ]; grind
theorem V_zeros (n : Nat) : V (List.replicate n 0) = 0 := by
  induction n with
  | zero => rfl
  | succ n ih => simp [List.replicate_succ, ih]
theorem V_lt {l : List Int} (h : Dg l) : V l < 4294967296 ^ l.length := by
  induction l with
  | nil => simp
  | cons d l ih =>
    have := ih h.tail; have := h.head
    simp only [V_cons, List.length_cons, Nat.pow_succ]
    omega
theorem D_zero : D 0 = [] := by unfold D; simp
theorem D_pos {n : Nat} (h : n ≠ 0) : D n = ((n % 4294967296 : Nat) : Int) :: D (n / 4294967296) := by
  conv => lhs; unfold D
  simp [h]
theorem V_D (n : Nat) : V (D n) = n := by
  induction n using Nat.strongRecOn with
  | _ n ih =>
    by_cases h : n = 0
    · subst h; simp [D_zero]
    · rw [D_pos h, V_cons, ih _ (by omega)]; omega
theorem Dg_D (n : Nat) : Dg (D n) := by
  induction n using Nat.strongRecOn with
  | _ n ih =>
    by_cases h : n = 0
    · subst h; rw [D_zero]; exact Dg.nil
    · rw [D_pos h]; exact Dg.cons (by omega) (by omega) (ih _ (by omega))
theorem D_cons {d : Int} {n : Nat} (h0 : 0 ≤ d) (h1 : d < 4294967296) (h : d ≠ 0 ∨ n ≠ 0) : D (d.toNat + 4294967296 * n) = d :: D n := by
  rw [D_pos (by omega)]
  congr 1
  · omega
  · congr 1; omega
theorem D_inj {a b : Nat} (h : D a = D b) : a = b := by rw [← V_D a, h, V_D]
/-- a list that is a number's: no nought at the high end -/
def Nm (l : List Int) : Prop := D (V l) = l
instance (l : List Int) : Decidable (Nm l) := inferInstanceAs (Decidable (D (V l) = l))
theorem Nm.dg {l : List Int} (h : Nm l) : Dg l := h ▸ Dg_D _
theorem Nm_D (n : Nat) : Nm (D n) := by unfold Nm; rw [V_D]
theorem Nm_nil : Nm [] := by unfold Nm; exact D_zero
theorem Nm.inj {a b : List Int} (h : Nm a) (k : Nm b) (e : V a = V b) : a = b := by rw [← h, e, k]
theorem V_eq_zero {l : List Int} (h : Nm l) : V l = 0 ↔ l = [] := by
  constructor
  · intro e; rw [← h, e, D_zero]
  · rintro rfl; rfl
theorem Nm_snoc {l : List Int} {d : Int} (h : Dg l) (h0 : 0 < d) (h1 : d < 4294967296) : Nm (l ++ [d]) := by
  unfold Nm
  induction l with
  | nil =>
    have := D_cons (d := d) (n := 0) (by omega) h1 (by omega)
    simpa [D_zero] using this
  | cons x l ih =>
    have hx := h.head
    rw [List.cons_append, V_cons, D_cons hx.1 hx.2, ih h.tail]
    right; rw [V_append]
    have : 0 < 4294967296 ^ l.length := Nat.pow_pos (by omega)
    have : 0 < 4294967296 ^ l.length * V [d] := Nat.mul_pos this (by simp; omega)
    omega
theorem V_snoc_zero (l : List Int) : V (l ++ [0]) = V l := by rw [V_append]; simp
theorem D_len_le {l : List Int} (h : Dg l) : (D (V l)).length ≤ l.length := by
  induction l with
  | nil => simp [D_zero]
  | cons x l ih =>
    have hx := h.head
    by_cases e : x ≠ 0 ∨ V l ≠ 0
    · rw [V_cons, D_cons hx.1 hx.2 e]; simpa using ih h.tail
    · have h1 : x = 0 := by omega
      have h2 : V l = 0 := by omega
      simp [h1, h2, D_zero]
theorem Nm_last {l : List Int} {d : Int} (h : Nm (l ++ [d])) : d ≠ 0 := by
  intro e; subst e
  have h2 := D_len_le h.dg.left
  have h3 : D (V (l ++ [0])) = l ++ [0] := h
  rw [V_snoc_zero] at h3
  rw [h3] at h2
  simp at h2
  omega
theorem Nm_iff {l : List Int} (h : Dg l) : Nm l ↔ l = [] ∨ l.getD (l.length - 1) 0 ≠ 0 := by
  rcases List.eq_nil_or_concat l with rfl | ⟨a, d, rfl⟩
  · simp [Nm_nil]
  · rw [List.concat_eq_append] at h ⊢
    have : (a ++ [d]).getD ((a ++ [d]).length - 1) 0 = d := by simp
    rw [this]
    constructor
    · intro k; exact .inr (Nm_last k)
    · rintro (k | k)
      · simp at k
      · have := h d (by simp)
        exact Nm_snoc h.left (by omega) this.2
theorem D_len_lt {n k : Nat} (h : n < 4294967296 ^ k) : (D n).length ≤ k := by
  induction k generalizing n with
  | zero => have : n = 0 := by simpa using h
            subst this; simp [D_zero]
  | succ k ih =>
    by_cases e : n = 0
    · subst e; simp [D_zero]
    · rw [D_pos e, List.length_cons]
      have := ih (n := n / 4294967296) (by rw [Nat.pow_succ] at h; omega)
      omega
theorem D_len_ge {n : Nat} (h : n ≠ 0) : 4294967296 ^ ((D n).length - 1) ≤ n := by
  apply Nat.le_of_not_lt
  intro k
  have := D_len_lt k
  have : (D n).length ≠ 0 := by rw [D_pos h]; simp
  omega
theorem Nm.len {l : List Int} (h : Nm l) : (D (V l)).length = l.length := by rw [h]
end Go.Proofs.YtbcjdlljmhfhdaaDoor.Eng.K

/- Texts as lists of bytes. -/
namespace Go.Proofs.YtbcjdlljmhfhdaaDoor.Eng.K
open Go.RowKit Go.Proofs Go.Proofs.YtbcjdlljmhfhdaaDoor.Eng
/-- a text's bytes -/
def tl (s : ByteArray) : List UInt8 := s.data.toList
theorem tl_len (s : ByteArray) : (tl s).length = s.size := by simp [tl]
theorem tl_inj {a b : ByteArray} : tl a = tl b ↔ a = b := ⟨fun h => by
  cases a; cases b
  congr
  exact Array.toList_inj.1 h, fun h => by rw [h]⟩
theorem tl_app (a b : ByteArray) : tl (a ++ b) = tl a ++ tl b := by simp [tl]
theorem tl_ext (s : ByteArray) (i j : Nat) : tl (s.extract i j) = ((tl s).take j).drop i := by
  simp only [tl, ByteArray.data_extract, Array.toList_extract, List.extract_eq_take_drop]
  rw [List.take_drop, List.drop_take, List.drop_take]
  congr 1
  omega
theorem tl_nil {s : ByteArray} : tl s = [] ↔ s = ⟨#[]⟩ := by
  rw [← tl_inj]
  simp [tl]
theorem tl_strOf (l : List Int) : tl (strOf l) = l.map fun n => UInt8.ofNat n.toNat := rfl
theorem tl_size_eq (s : ByteArray) : s.size = (tl s).length := (tl_len s).symm
theorem bt_eq (s : ByteArray) (i : Int) : bt s i = (((tl s).getD i.toNat 0).toNat : Int) := by
  unfold bt tl
  split
  · rename_i h
    have : i.toNat < s.data.toList.length := by simpa using h
    simp [List.getD, List.getElem?_eq_getElem this]
    rfl
  · rename_i h
    have : ¬ i.toNat < s.data.toList.length := by simpa using h
    simp [List.getD, List.getElem?_eq_none (by omega : s.data.toList.length ≤ i.toNat)]
end Go.Proofs.YtbcjdlljmhfhdaaDoor.Eng.K
namespace Go.Proofs.YtbcjdlljmhfhdaaDoor.Eng.K
open Go.RowKit Go.Proofs Go.Proofs.YtbcjdlljmhfhdaaDoor.Eng
theorem dec_big (s : ByteArray) (i : Nat) (h : i < s.size) (ha : 128 ≤ (s[i]'h).toNat) : 128 ≤ (Utf8.decode s i).1 := by
  have e : s.get! (i + 0) = s[i]'h := by
    show s.get! i = _
    simp [ByteArray.get!, getElem!_pos, h]
    rfl
  unfold Utf8.decode
  simp only [e]
  rw [if_neg (by omega)]
  repeat' split
  all_goals first
    | (show 128 ≤ Utf8.runeError; decide)
    | (rename_i hc; simp only [Bool.and_eq_true, decide_eq_true_eq] at hc; show 128 ≤ _; omega)
    | (rename_i hc; show 128 ≤ _; omega)
end Go.Proofs.YtbcjdlljmhfhdaaDoor.Eng.K

/- Texts to the base 16 in plain words: digits, exponents, what a text says. -/
namespace Go.Proofs.YtbcjdlljmhfhdaaDoor.Eng.K
/-- a hexadecimal digit's value -/
def hx (b : UInt8) : Option Nat := if 48 ≤ b.toNat ∧ b.toNat ≤ 57 then some (b.toNat - 48) else if 97 ≤ b.toNat ∧ b.toNat ≤ 102 then some (b.toNat - 87) else none
def isH (b : UInt8) : Bool := (hx b).isSome
/-- digits' value, behind another one -/
def hval (l : List UInt8) (a : Nat) : Nat := l.foldl (fun a b => 16 * a + (hx b).getD 0) a
def isD (b : UInt8) : Bool := decide (48 ≤ b.toNat ∧ b.toNat ≤ 57)
def dval (l : List UInt8) (a : Nat) : Nat := l.foldl (fun a b => 10 * a + (b.toNat - 48)) a
/-- an exponent's sign, and what stands behind it -/
def expN : List UInt8 → Bool
  | 45 :: _ => true
  | _ => false
def expR : List UInt8 → List UInt8
  | 45 :: r => r
  | 43 :: r => r
  | r => r
def expOk (E : List UInt8) : Bool := decide (expR E ≠ []) && decide ((expR E).length ≤ 6) && (expR E).all isD
def expV (E : List UInt8) : Int := if expN E = true then -(dval (expR E) 0 : Int) else dval (expR E) 0
/-- what stands behind 0x: the digits, the exponent -/
structure Rd (l W P E : List UInt8) (pt : Bool) : Prop where
  l : l = W ++ (if pt = true then 46 :: P else []) ++ 112 :: E
  w : W ≠ []
  hw : W.all isH = true
  hp : P.all isH = true
  p : if pt = true then P ≠ [] else P = []
  e : expOk E = true
/-- by the first byte: p, a point, or neither -/
def onPQ {α : Type} (f g : List UInt8 → α) (d : α) : List UInt8 → α
  | 112 :: E => f E
  | 46 :: r => g r
  | _ => d
theorem onPQ_no {α : Type} (f g : List UInt8 → α) (d : α) {x : UInt8} {r : List UInt8} (h1 : x ≠ 112) (h2 : x ≠ 46) : onPQ f g d (x :: r) = d := by
  unfold onPQ
  split
  · rename_i h; exact absurd (List.cons.inj h).1 h1
  · rename_i h; exact absurd (List.cons.inj h).1 h2
  · rfl
def readS (l : List UInt8) : Option (Nat × Int) :=
  if l.takeWhile isH = [] then none else
  onPQ (fun E => if expOk E = true then some (hval (l.takeWhile isH) 0, expV E) else none)
    (fun r => if r.takeWhile isH = [] then none else onPQ (fun E => if expOk E = true then some (hval (l.takeWhile isH ++ r.takeWhile isH) 0, expV E - 4 * ((r.takeWhile isH).length : Int)) else none) (fun _ => none) none (r.dropWhile isH))
    none (l.dropWhile isH)
theorem tw_all {α : Type} (p : α → Bool) (l : List α) : (l.takeWhile p).all p = true := by
  induction l with
  | nil => rfl
  | cons a l ih => by_cases h : p a = true <;> simp [h]
theorem tw_dw {α : Type} (p : α → Bool) (l : List α) : l.takeWhile p ++ l.dropWhile p = l := List.takeWhile_append_dropWhile
theorem tw_app {α : Type} {p : α → Bool} {A : List α} {c : α} {r : List α} (hA : A.all p = true) (hc : p c = false) : (A ++ c :: r).takeWhile p = A ∧ (A ++ c :: r).dropWhile p = c :: r := by
  induction A with
  | nil => simp [hc]
  | cons a A ih =>
    simp only [List.all_cons, Bool.and_eq_true] at hA
    obtain ⟨h1, h2⟩ := ih hA.2
    simp [hA.1, h1, h2]
theorem hx112 : isH 112 = false := by decide
theorem hx46 : isH 46 = false := by decide
theorem readS_of {l W P E : List UInt8} {pt : Bool} (h : Rd l W P E pt) : readS l = some (hval (W ++ P) 0, expV E - 4 * (P.length : Int)) := by
  obtain ⟨rfl, w, hw, hp, p, e⟩ := h
  cases pt with
  | false =>
    simp only [Bool.false_eq_true, if_false] at p ⊢
    subst p
    obtain ⟨h1, h2⟩ := tw_app (r := E) hw hx112
    unfold readS
    rw [List.append_nil, h1, h2, if_neg w]
    show (if expOk E = true then _ else _) = _
    rw [if_pos e]
    simp
  | true =>
    simp only [if_true] at p ⊢
    have h0 : W ++ 46 :: P ++ 112 :: E = W ++ 46 :: (P ++ 112 :: E) := by simp
    obtain ⟨h1, h2⟩ := tw_app (r := P ++ 112 :: E) hw hx46
    obtain ⟨h3, h4⟩ := tw_app (r := E) hp hx112
    unfold readS
    rw [h0, h1, h2, if_neg w]
    show (if (P ++ 112 :: E).takeWhile isH = [] then _ else _) = _
    rw [h3, h4, if_neg p]
    show (if expOk E = true then _ else _) = _
    rw [if_pos e]
theorem readS_none {l : List UInt8} (h : ∀ W P E pt, ¬ Rd l W P E pt) : readS l = none := by
  unfold readS
  split
  · rfl
  · rename_i hW
    have h0 := tw_dw isH l
    cases hd : l.dropWhile isH with
    | nil => rfl
    | cons x r =>
      rw [hd] at h0
      by_cases c1 : x = 112
      · subst c1
        show (if expOk r = true then _ else _) = _
        by_cases e : expOk r = true
        · exact absurd (⟨by simpa using h0.symm, hW, tw_all _ _, rfl, rfl, e⟩ : Rd l (l.takeWhile isH) [] r false) (h _ _ _ _)
        · rw [if_neg e]
      by_cases c2 : x = 46
      · subst c2
        show (if r.takeWhile isH = [] then _ else _) = _
        by_cases hP : r.takeWhile isH = []
        · rw [if_pos hP]
        · rw [if_neg hP]
          have h1 := tw_dw isH r
          cases hd2 : r.dropWhile isH with
          | nil => rfl
          | cons y E =>
            rw [hd2] at h1
            by_cases c3 : y = 112
            · subst c3
              show (if expOk E = true then _ else _) = _
              by_cases e : expOk E = true
              · refine absurd (⟨?_, hW, tw_all _ _, tw_all _ _, by simpa using hP, e⟩ : Rd l (l.takeWhile isH) (r.takeWhile isH) E true) (h _ _ _ _)
                simp only [if_true]
                rw [List.append_assoc, List.cons_append, h1]
                exact h0.symm
              · rw [if_neg e]
            · by_cases c4 : y = 46
              · subst c4; rfl
              · exact onPQ_no _ _ _ c3 c4
      · exact onPQ_no _ _ _ c1 c2
theorem readS_some {l : List UInt8} {x : Nat × Int} (h : readS l = some x) : ∃ W P E pt, Rd l W P E pt ∧ x = (hval (W ++ P) 0, expV E - 4 * (P.length : Int)) := by
  by_cases k : ∃ W P E pt, Rd l W P E pt
  · obtain ⟨W, P, E, pt, k⟩ := k
    refine ⟨W, P, E, pt, k, ?_⟩
    have h2 := readS_of k
    rw [h] at h2
    exact (Option.some.inj h2)
  · rw [readS_none (fun W P E pt h2 => k ⟨W, P, E, pt, h2⟩)] at h
    cases h
theorem hval_app (a b : List UInt8) (n : Nat) : hval (a ++ b) n = hval b (hval a n) := by unfold hval; rw [List.foldl_append]
theorem hx_lt {b : UInt8} : (hx b).getD 0 < 16 := by
  unfold hx
  split
  · simp; omega
  · split
    · simp; omega
    · simp
theorem hval_acc (l : List UInt8) (n : Nat) : hval l n = n * 16 ^ l.length + hval l 0 := by
  induction l generalizing n with
  | nil => simp [hval]
  | cons a l ih =>
    have h : ∀ m, hval (a :: l) m = hval l (16 * m + (hx a).getD 0) := fun m => rfl
    rw [h, h, ih, ih (16 * 0 + _), List.length_cons, Nat.pow_succ]
    grind
theorem hval_lt (l : List UInt8) : hval l 0 < 16 ^ l.length := by
  induction l with
  | nil => simp [hval]
  | cons a l ih =>
    have h : hval (a :: l) 0 = hval l (16 * 0 + (hx a).getD 0) := rfl
    have := hx_lt (b := a)
    rw [h, hval_acc, List.length_cons, Nat.pow_succ]
    have : (16 * 0 + (hx a).getD 0) * 16 ^ l.length ≤ 15 * 16 ^ l.length := Nat.mul_le_mul_right _ (by omega)
    omega
theorem dval_lt (l : List UInt8) (hl : l.all isD = true) (n : Nat) : dval l n < (n + 1) * 10 ^ l.length := by
  induction l generalizing n with
  | nil => simp [dval]
  | cons a l ih =>
    simp only [List.all_cons, Bool.and_eq_true] at hl
    have h : dval (a :: l) n = dval l (10 * n + (a.toNat - 48)) := rfl
    have h1 := hl.1
    simp only [isD, decide_eq_true_eq] at h1
    have := ih hl.2 (10 * n + (a.toNat - 48))
    rw [h, List.length_cons, Nat.pow_succ]
    have h2 : (10 * n + (a.toNat - 48) + 1) * 10 ^ l.length ≤ ((n + 1) * 10) * 10 ^ l.length := Nat.mul_le_mul_right _ (by omega)
    have h3 : (n + 1) * (10 ^ l.length * 10) = ((n + 1) * 10) * 10 ^ l.length := by rw [Nat.mul_assoc, Nat.mul_comm 10]
    omega
theorem expV_b {E : List UInt8} (h : expOk E = true) : -1000000 < expV E ∧ expV E < 1000000 := by
  simp only [expOk, Bool.and_eq_true, decide_eq_true_eq] at h
  have h1 := dval_lt (expR E) h.2 0
  have h2 : 10 ^ (expR E).length ≤ 10 ^ 6 := Nat.pow_le_pow_right (by omega) h.1.2
  unfold expV
  split <;> omega
end Go.Proofs.YtbcjdlljmhfhdaaDoor.Eng.K
namespace Go.Proofs.YtbcjdlljmhfhdaaDoor.Eng.K
end Go.Proofs.YtbcjdlljmhfhdaaDoor.Eng.K

/- The first layer's plain functions: trimmed lists, comparisons, sums and differences are the numbers' own. -/
set_option linter.unusedVariables false
set_option linter.unusedSimpArgs false
namespace Go.Proofs.YtbcjdlljmhfhdaaDoor.Eng.K
open Go.RowKit

theorem w64s {n : Nat} (h : n < 4611686018427387904) : wrap64 ((n : Int) + 1) = ((n + 1 : Nat) : Int) := by unfold wrap64; omega
theorem w64p {n : Nat} (h : n < 4611686018427387904) : wrap64 (((n + 1 : Nat) : Int) - 1) = (n : Int) := by unfold wrap64; omega

/-! ### trimmed -/
theorem trim_ev : ∀ (n : Nat) (l : List Int), l.length = n → Dg l → n < 4611686018427387904 → Ev (fun k => nat_trim.f k l) (D (V l))
  | 0, l, hn, hd, hb => by
    have : l = [] := List.eq_nil_of_length_eq_zero hn
    subst this
    refine ev_step (ev_const ?_)
    simp [nat_trim.f, nat_trim.l0, D_zero]
  | n + 1, l, hn, hd, hb => by
    rcases List.eq_nil_or_concat l with rfl | ⟨a, d, rfl⟩
    · simp at hn
    rw [List.concat_eq_append] at hn hd ⊢
    have hl : (a ++ [d]).length = n + 1 := hn
    have ha : a.length = n := by simpa using hn
    refine ev_step ?_
    show Ev (fun k => nat_trim.l0 (k + 1) (a ++ [d])) _
    simp only [nat_trim.l0, hl, w64p (n := n) (by omega)]
    refine ev_pos (by omega) (ev_pos (by omega) (ev_pos (by omega) ?_))
    rw [rd_app (by omega)]
    by_cases h0 : d = 0
    · subst h0
      refine ev_pos rfl (ev_pos (by omega) ?_)
      rw [V_snoc_zero]
      have : (a ++ [(0 : Int)]).take (n : Int).toNat = a := by simp [← ha]
      rw [this]
      exact ev_pos (by omega) (trim_ev n a ha hd.left (by omega))
    · refine ev_neg h0 ?_
      have := hd d (by simp)
      rw [Nm_snoc hd.left (by omega) this.2]
      exact Ev.now _
theorem nat_trim_ev {l : List Int} (hd : Dg l) (hb : l.length < 4611686018427387904) : Ev (fun k => nat_trim.f k l) (D (V l)) := trim_ev _ l rfl hd hb
theorem V_two (n : Int) (h0 : 0 ≤ n) (h1 : n < 18446744073709551616) : V [n % 4294967296, (n / 4294967296) % 4294967296] = n.toNat := by
  simp; omega
theorem Dg_two (n : Int) : Dg [n % 4294967296, (n / 4294967296) % 4294967296] := Dg.cons (by omega) (by omega) (Dg.cons (by omega) (by omega) Dg.nil)
theorem nat_Of_ev {n : Int} (h0 : 0 ≤ n) (h1 : n < 18446744073709551616) : Ev (fun k => nat_Of.f k n) (D n.toNat) := by
  unfold nat_Of.f
  refine Ev.bind (nat_trim_ev (Dg_two n) (by simp)) ?_
  rw [V_two n h0 h1]; exact Ev.now _
/-! ### the same digits -/
/-! ### which lists are numbers -/
def may (l : List Int) : Bool := decide (l.length ≤ 4096) && decide (Nm l)
theorem may_iff {l : List Int} : may l = true ↔ l.length ≤ 4096 ∧ Nm l := by simp [may]
theorem nat_May_eq {l : List Int} (h : Dg l) (hb : l.length < 4611686018427387904) : nat_May.f l = some (may l) := by
  unfold nat_May.f may
  by_cases h1 : l.length ≤ 4096
  · rw [if_pos (by omega)]
    by_cases h2 : l.length = 0
    · have : l = [] := List.eq_nil_of_length_eq_zero h2
      subst this; simp [Nm_nil]
    · rw [if_neg (by omega)]
      have e : wrap64 ((l.length : Int) - 1) = ((l.length - 1 : Nat) : Int) := by unfold wrap64; omega
      rw [e, if_pos (by omega), if_pos (by omega), rdn]
      have h3 : l ≠ [] := fun e => h2 (by rw [e]; rfl)
      have h4 := Nm_iff h
      by_cases h5 : l.getD (l.length - 1) 0 = 0
      · have : ¬ Nm l := fun k => by rcases h4.1 k with k | k <;> contradiction
        rw [h5]; simp [this]
      · have : Nm l := h4.2 (.inr h5)
        simp only [h5, not_false_eq_true, decide_true]; simp [h1, this]
  · rw [if_neg (by omega)]; simp [h1]
/-! ### sums -/
theorem Dg.headD {b : List Int} (h : Dg b) : 0 ≤ b.headD 0 ∧ b.headD 0 < 4294967296 := by
  cases b with
  | nil => simp
  | cons y b => exact h.head
theorem V_headtail (b : List Int) : V b = (b.headD 0).toNat + 4294967296 * V b.tail := by
  cases b <;> simp
theorem drop_headD (b : List Int) (n : Nat) : (b.drop n).headD 0 = b.getD n 0 := by
  rw [List.headD_eq_head?_getD, List.head?_drop, List.getD_eq_getElem?_getD]
end Go.Proofs.YtbcjdlljmhfhdaaDoor.Eng.K

/- The first layer's plain functions: comparisons and differences; a number's value. -/
set_option linter.unusedVariables false
set_option linter.unusedSimpArgs false
namespace Go.Proofs.YtbcjdlljmhfhdaaDoor.Eng.K
open Go.RowKit

/-! ### which is above which -/
/-! ### differences -/
theorem half (n : Nat) : n >>> 31 = n / 2147483648 := by rw [Nat.shiftRight_eq_div_pow]
/-! ### the references' sums and differences: appended digit by digit -/
end Go.Proofs.YtbcjdlljmhfhdaaDoor.Eng.K

/- The first layer's plain functions: products. -/
set_option linter.unusedVariables false
set_option linter.unusedSimpArgs false
namespace Go.Proofs.YtbcjdlljmhfhdaaDoor.Eng.K
open Go.RowKit

theorem D_len_pos {l : List Int} (h : Nm l) (h0 : l ≠ []) : 4294967296 ^ (l.length - 1) ≤ V l := by
  have h1 : V l ≠ 0 := fun e => h0 ((V_eq_zero h).1 e)
  have := D_len_ge h1
  rwa [h.len] at this
def conv : List Int → List Int → Nat → Nat
  | [], _, _ => 0
  | x :: _, b, 0 => x.toNat * (b.getD 0 0).toNat
  | x :: a, b, k + 1 => x.toNat * (b.getD (k + 1) 0).toNat + conv a b k
end Go.Proofs.YtbcjdlljmhfhdaaDoor.Eng.K

/- The first layer's statements: what they share. -/
set_option linter.unusedVariables false
set_option linter.unusedSimpArgs false
namespace Go.Proofs.YtbcjdlljmhfhdaaDoor.Eng.K
open Go.RowKit

/-! ### a number's value as a word -/
theorem or_u64_disjoint {x y : Int} (h0 : 0 ≤ x ∧ x < 4294967296) (h1 : 0 ≤ y ∧ y < 4294967296) : Go.bits .or .u64 x (y * 4294967296) = x + y * 4294967296 := by
  obtain ⟨X, rfl⟩ := Int.eq_ofNat_of_zero_le h0.1
  obtain ⟨Y, rfl⟩ := Int.eq_ofNat_of_zero_le h1.1
  have e : (Y : Int) * 4294967296 = ((2 ^ 32 * Y : Nat) : Int) := by omega
  rw [e, u64_or_nat _ _ (by omega) (by omega), Nat.or_comm, ← Nat.two_pow_add_eq_or_of_lt (by omega)]
  omega
theorem shl_zero {d : Int} (h : 0 ≤ d ∧ d < 4294967296) : shl .u64 d 0 = d := by
  unfold shl; simp; exact u64 h.1 (by omega)
theorem shl_32 {d : Int} (h : 0 ≤ d ∧ d < 4294967296) : shl .u64 d 32 = d * 4294967296 := by
  unfold shl
  have e : min (32 : Int).toNat IntKind.u64.bits = 32 := by decide
  rw [e, show (2 : Int) ^ 32 = 4294967296 from rfl, u64 (by omega) (by omega)]
def numB (l : List Int) : Bool := may l && decide (l.length ≤ 2)
theorem nat_Num_ev {l : List Int} (h : Dg l) (hb : l.length < 4611686018427387904) : Ev (fun k => nat_Num.f k l) (if numB l then ((V l : Nat) : Int) else 0, numB l) := by
  unfold nat_Num.f
  refine ev_bind (nat_May_eq h hb) ?_
  have no : numB l = false → Ev (fun _ : Nat => some ((0 : Int), false)) (if numB l then ((V l : Nat) : Int) else 0, numB l) := by
    intro e
    rw [e]
    exact Ev.now _
  by_cases c1 : may l = true
  · rw [c1]
    (repeat (first | (with_reducible refine ev_pos ?_ ?_; focus (first | omega | assumption | (simp; done) | (simp; omega))) | (with_reducible refine ev_neg ?_ ?_; focus (first | omega | assumption | (simp; done) | (simp; omega)))))
    by_cases c2 : l.length > 2
    · (repeat (first | (with_reducible refine ev_pos ?_ ?_; focus (first | omega | assumption | (simp; done) | (simp; omega))) | (with_reducible refine ev_neg ?_ ?_; focus (first | omega | assumption | (simp; done) | (simp; omega)))))
      exact no (by unfold numB; rw [decide_eq_false (by omega)]; simp)
    · (repeat (first | (with_reducible refine ev_pos ?_ ?_; focus (first | omega | assumption | (simp; done) | (simp; omega))) | (with_reducible refine ev_neg ?_ ?_; focus (first | omega | assumption | (simp; done) | (simp; omega)))))
      have e : numB l = true := by unfold numB; rw [c1, decide_eq_true (by omega)]; rfl
      rw [e]
      have w0 : wrap64 (32 * 0) = 0 := by unfold wrap64; omega
      have w1 : wrap64 (0 + 1) = 1 := by unfold wrap64; omega
      have w2 : wrap64 (32 * 1) = 32 := by unfold wrap64; omega
      have w3 : wrap64 (1 + 1) = 2 := by unfold wrap64; omega
      match l, h with
      | [], h =>
        refine ev_step ?_
        simp only [nat_Num.l0]
        (repeat (first | (with_reducible refine ev_pos ?_ ?_; focus (first | omega | assumption | (simp; done) | (simp; omega))) | (with_reducible refine ev_neg ?_ ?_; focus (first | omega | assumption | (simp; done) | (simp; omega))))); exact Ev.now _
      | [x], h =>
        have hx := h.head
        refine ev_step ?_
        simp only [nat_Num.l0, w0, w1]
        (repeat (first | (with_reducible refine ev_pos ?_ ?_; focus (first | omega | assumption | (simp; done) | (simp; omega))) | (with_reducible refine ev_neg ?_ ?_; focus (first | omega | assumption | (simp; done) | (simp; omega)))))
        have r0 : rd [x] 0 = x := rfl
        rw [r0, u64 hx.1 (by omega), shl_zero hx, u64_or _ _ (by omega) (by omega) (by omega) (by omega)]
        refine ev_step ?_
        simp only [nat_Num.l0]
        (repeat (first | (with_reducible refine ev_pos ?_ ?_; focus (first | omega | assumption | (simp; done) | (simp; omega))) | (with_reducible refine ev_neg ?_ ?_; focus (first | omega | assumption | (simp; done) | (simp; omega)))))
        refine ev_eq (Ev.now _) ?_
        simp
      | [x, y], h =>
        have hx := h.head
        have hy := h.tail.head
        refine ev_step ?_
        simp only [nat_Num.l0, w0, w1]
        (repeat (first | (with_reducible refine ev_pos ?_ ?_; focus (first | omega | assumption | (simp; done) | (simp; omega))) | (with_reducible refine ev_neg ?_ ?_; focus (first | omega | assumption | (simp; done) | (simp; omega)))))
        have r0 : rd [x, y] 0 = x := rfl
        have r1 : rd [x, y] 1 = y := rfl
        rw [r0, u64 hx.1 (by omega), shl_zero hx, u64_or _ _ (by omega) (by omega) (by omega) (by omega)]
        have z : (((0 : Int).toNat ||| x.toNat : Nat) : Int) = x := by simp; omega
        rw [z]
        refine ev_step ?_
        simp only [nat_Num.l0, w2, w3]
        (repeat (first | (with_reducible refine ev_pos ?_ ?_; focus (first | omega | assumption | (simp; done) | (simp; omega))) | (with_reducible refine ev_neg ?_ ?_; focus (first | omega | assumption | (simp; done) | (simp; omega)))))
        rw [r1, u64 (n := y) hy.1 (by omega), shl_32 hy, or_u64_disjoint hx hy]
        refine ev_step ?_
        simp only [nat_Num.l0]
        (repeat (first | (with_reducible refine ev_pos ?_ ?_; focus (first | omega | assumption | (simp; done) | (simp; omega))) | (with_reducible refine ev_neg ?_ ?_; focus (first | omega | assumption | (simp; done) | (simp; omega)))))
        refine ev_eq (Ev.now _) ?_
        simp; omega
      | x :: y :: z :: l, h => simp at c2
  · have c1 : may l = false := by simpa using c1
    rw [c1]
    (repeat (first | (with_reducible refine ev_pos ?_ ?_; focus (first | omega | assumption | (simp; done) | (simp; omega))) | (with_reducible refine ev_neg ?_ ?_; focus (first | omega | assumption | (simp; done) | (simp; omega))))); exact no (by unfold numB; simp [c1])
end Go.Proofs.YtbcjdlljmhfhdaaDoor.Eng.K

/- The first layer's plain functions: the length of a number in bits. -/
set_option linter.unusedVariables false
set_option linter.unusedSimpArgs false
namespace Go.Proofs.YtbcjdlljmhfhdaaDoor.Eng.K
open Go.RowKit

/-- how many bits -/
def bl (n : Nat) : Nat := if n = 0 then 0 else n.log2 + 1
theorem bl_zero : bl 0 = 0 := rfl
theorem bl_le {n : Nat} (h : n ≠ 0) : 2 ^ (bl n - 1) ≤ n := by
  unfold bl; rw [if_neg h]; exact Nat.log2_self_le h
theorem lt_bl (n : Nat) : n < 2 ^ bl n := by
  unfold bl
  split
  · subst n; simp
  · exact Nat.lt_log2_self
theorem bl_pos {n : Nat} (h : n ≠ 0) : 0 < bl n := by unfold bl; rw [if_neg h]; omega
theorem bl_le_of_lt {n k : Nat} (h : n < 2 ^ k) : bl n ≤ k := by
  by_cases e : n = 0
  · subst e; simp [bl_zero]
  · have h1 := bl_le e
    have h2 := bl_pos e
    have : bl n - 1 < k := (Nat.pow_lt_pow_iff_right (a := 2) (by omega)).1 (Nat.lt_of_le_of_lt h1 h)
    omega
theorem bl_unique {n k : Nat} (h1 : 2 ^ k ≤ n) (h2 : n < 2 ^ (k + 1)) : bl n = k + 1 := by
  have := bl_le_of_lt h2
  have h3 : 2 ^ k < 2 ^ bl n := Nat.lt_of_le_of_lt h1 (lt_bl n)
  have := (Nat.pow_lt_pow_iff_right (a := 2) (by omega)).1 h3
  omega
theorem bl_shift {n k : Nat} (h : 2 ^ k ≤ n) : bl n = k + bl (n / 2 ^ k) := by
  have hp : 0 < 2 ^ k := Nat.pow_pos (by omega)
  have h0 : n / 2 ^ k ≠ 0 := by
    have := (Nat.le_div_iff_mul_le hp (x := 1) (y := n)).2 (by omega)
    omega
  have h1 := bl_le h0
  have h2 := lt_bl (n / 2 ^ k)
  have h3 := bl_pos h0
  have e : k + bl (n / 2 ^ k) = (k + (bl (n / 2 ^ k) - 1)) + 1 := by omega
  rw [e]
  apply bl_unique
  · rw [Nat.pow_add]
    have := (Nat.le_div_iff_mul_le hp).1 h1
    rw [Nat.mul_comm]; exact this
  · have := (Nat.div_lt_iff_lt_mul hp).1 h2
    rw [show k + (bl (n / 2 ^ k) - 1) + 1 = bl (n / 2 ^ k) + k by omega, Nat.pow_add]
    exact this
def tab8 : ByteArray := ⟨#[0, 1, 2, 2, 3, 3, 3, 3, 4, 4, 4, 4, 4, 4, 4, 4, 5, 5, 5, 5, 5, 5, 5, 5, 5, 5, 5, 5, 5, 5, 5, 5, 6, 6, 6, 6, 6, 6, 6, 6, 6, 6, 6, 6, 6, 6, 6, 6, 6, 6, 6, 6, 6, 6, 6, 6, 6, 6, 6, 6, 6, 6, 6, 6, 7, 7, 7, 7, 7, 7, 7, 7, 7, 7, 7, 7, 7, 7, 7, 7, 7, 7, 7, 7, 7, 7, 7, 7, 7, 7, 7, 7, 7, 7, 7, 7, 7, 7, 7, 7, 7, 7, 7, 7, 7, 7, 7, 7, 7, 7, 7, 7, 7, 7, 7, 7, 7, 7, 7, 7, 7, 7, 7, 7, 7, 7, 7, 7, 8, 8, 8, 8, 8, 8, 8, 8, 8, 8, 8, 8, 8, 8, 8, 8, 8, 8, 8, 8, 8, 8, 8, 8, 8, 8, 8, 8, 8, 8, 8, 8, 8, 8, 8, 8, 8, 8, 8, 8, 8, 8, 8, 8, 8, 8, 8, 8, 8, 8, 8, 8, 8, 8, 8, 8, 8, 8, 8, 8, 8, 8, 8, 8, 8, 8, 8, 8, 8, 8, 8, 8, 8, 8, 8, 8, 8, 8, 8, 8, 8, 8, 8, 8, 8, 8, 8, 8, 8, 8, 8, 8, 8, 8, 8, 8, 8, 8, 8, 8, 8, 8, 8, 8, 8, 8, 8, 8, 8, 8, 8, 8, 8, 8, 8, 8, 8, 8, 8, 8, 8, 8, 8, 8, 8, 8, 8, 8]⟩
theorem tab8_eq : (List.range 256).all (fun i => bt tab8 (i : Int) == (bl i : Int)) = true := by decide +kernel
theorem bt8 {t : ByteArray} {n : Nat} (h : n < 256) (ht : t = tab8) : bt t (n : Int) = (bl n : Int) := by
  subst ht
  have := List.all_eq_true.1 tab8_eq n (List.mem_range.2 h)
  exact eq_of_beq this
theorem bl_small {n : Nat} (h : n < 256) : bl n ≤ 8 := bl_le_of_lt h
theorem len8_size : tx_c182c703.size = 256 := by decide +kernel
theorem len32_j1 {n : Nat} (h : n < 256) {m : Int} (hm : 0 ≤ m ∧ m ≤ 64) : Ev (fun k => bits_Len32.j1 k (n : Int) m) (m + (bl n : Nat)) := by
  refine ev_step ?_
  simp only [bits_Len32.j1]
  have e : (n : Int) % 256 = n := by omega
  have l := bl_small h
  rw [e, len8_size]
  (repeat (first | (with_reducible refine ev_pos ?_ ?_; focus (first | omega | assumption | (simp; done) | (simp; omega))) | (with_reducible refine ev_neg ?_ ?_; focus (first | omega | assumption | (simp; done) | (simp; omega)))))
  rw [bt8 h (by rfl), w64n (n := ((bl n : Nat) : Int)) (by omega) (by omega), w64n (by omega) (by omega)]
  exact Ev.now _
theorem len32_j0 {n : Nat} (h : n < 65536) {m : Int} (hm : 0 ≤ m ∧ m ≤ 32) : Ev (fun k => bits_Len32.j0 k (n : Int) m) (m + (bl n : Nat)) := by
  refine ev_step ?_
  simp only [bits_Len32.j0]
  by_cases c : n ≥ 256
  · (repeat (first | (with_reducible refine ev_pos ?_ ?_; focus (first | omega | assumption | (simp; done) | (simp; omega))) | (with_reducible refine ev_neg ?_ ?_; focus (first | omega | assumption | (simp; done) | (simp; omega)))))
    have e2 : bl n = 8 + bl (n / 256) := bl_shift (k := 8) c
    have := len32_j1 (n := n / 256) (by omega) (m := m + 8) (by omega)
    rw [w64n (by omega) (by omega), show (n : Int) / 256 = ((n / 256 : Nat) : Int) by omega]
    exact ev_eq this (by rw [e2]; omega)
  · (repeat (first | (with_reducible refine ev_pos ?_ ?_; focus (first | omega | assumption | (simp; done) | (simp; omega))) | (with_reducible refine ev_neg ?_ ?_; focus (first | omega | assumption | (simp; done) | (simp; omega)))))
    exact len32_j1 (by omega) (by omega)
theorem len32_ev {x : Int} (h : 0 ≤ x ∧ x < 4294967296) : Ev (fun k => bits_Len32.f k x) ((bl x.toNat : Nat) : Int) := by
  obtain ⟨n, rfl⟩ := Int.eq_ofNat_of_zero_le h.1
  unfold bits_Len32.f
  rw [Int.toNat_natCast]
  by_cases c : n ≥ 65536
  · (repeat (first | (with_reducible refine ev_pos ?_ ?_; focus (first | omega | assumption | (simp; done) | (simp; omega))) | (with_reducible refine ev_neg ?_ ?_; focus (first | omega | assumption | (simp; done) | (simp; omega)))))
    have e1 : bl n = 16 + bl (n / 65536) := bl_shift (k := 16) c
    rw [show (n : Int) / 65536 = ((n / 65536 : Nat) : Int) by omega]
    exact ev_eq (len32_j0 (by omega) (by omega)) (by rw [e1]; omega)
  · (repeat (first | (with_reducible refine ev_pos ?_ ?_; focus (first | omega | assumption | (simp; done) | (simp; omega))) | (with_reducible refine ev_neg ?_ ?_; focus (first | omega | assumption | (simp; done) | (simp; omega)))))
    exact ev_eq (len32_j0 (by omega) (by omega)) (by omega)
theorem len64_j2 {n : Nat} (h : n < 256) {m : Int} (hm : 0 ≤ m ∧ m ≤ 128) : Ev (fun k => bits_Len64.j2 k (n : Int) m) (m + (bl n : Nat)) := by
  refine ev_step ?_
  simp only [bits_Len64.j2]
  have e : (n : Int) % 256 = n := by omega
  have l := bl_small h
  rw [e, len8_size]
  (repeat (first | (with_reducible refine ev_pos ?_ ?_; focus (first | omega | assumption | (simp; done) | (simp; omega))) | (with_reducible refine ev_neg ?_ ?_; focus (first | omega | assumption | (simp; done) | (simp; omega)))))
  rw [bt8 h (by rfl), w64n (n := ((bl n : Nat) : Int)) (by omega) (by omega), w64n (by omega) (by omega)]
  exact Ev.now _
theorem len64_j1 {n : Nat} (h : n < 65536) {m : Int} (hm : 0 ≤ m ∧ m ≤ 100) : Ev (fun k => bits_Len64.j1 k (n : Int) m) (m + (bl n : Nat)) := by
  refine ev_step ?_
  simp only [bits_Len64.j1]
  by_cases c : n ≥ 256
  · (repeat (first | (with_reducible refine ev_pos ?_ ?_; focus (first | omega | assumption | (simp; done) | (simp; omega))) | (with_reducible refine ev_neg ?_ ?_; focus (first | omega | assumption | (simp; done) | (simp; omega)))))
    have e2 : bl n = 8 + bl (n / 256) := bl_shift (k := 8) c
    have := len64_j2 (n := n / 256) (by omega) (m := m + 8) (by omega)
    rw [w64n (by omega) (by omega), show (n : Int) / 256 = ((n / 256 : Nat) : Int) by omega]
    exact ev_eq this (by rw [e2]; omega)
  · (repeat (first | (with_reducible refine ev_pos ?_ ?_; focus (first | omega | assumption | (simp; done) | (simp; omega))) | (with_reducible refine ev_neg ?_ ?_; focus (first | omega | assumption | (simp; done) | (simp; omega)))))
    exact len64_j2 (by omega) (by omega)
theorem len64_j0 {n : Nat} (h : n < 4294967296) {m : Int} (hm : 0 ≤ m ∧ m ≤ 64) : Ev (fun k => bits_Len64.j0 k n m) (m + (bl n : Nat)) := by
  refine ev_step ?_
  simp only [bits_Len64.j0]
  by_cases c : n ≥ 65536
  · (repeat (first | (with_reducible refine ev_pos ?_ ?_; focus (first | omega | assumption | (simp; done) | (simp; omega))) | (with_reducible refine ev_neg ?_ ?_; focus (first | omega | assumption | (simp; done) | (simp; omega)))))
    have e2 : bl n = 16 + bl (n / 65536) := bl_shift (k := 16) c
    have := len64_j1 (n := n / 65536) (by omega) (m := m + 16) (by omega)
    rw [w64n (by omega) (by omega), show (n : Int) / 65536 = ((n / 65536 : Nat) : Int) by omega]
    exact ev_eq this (by rw [e2]; omega)
  · (repeat (first | (with_reducible refine ev_pos ?_ ?_; focus (first | omega | assumption | (simp; done) | (simp; omega))) | (with_reducible refine ev_neg ?_ ?_; focus (first | omega | assumption | (simp; done) | (simp; omega)))))
    exact len64_j1 (by omega) (by omega)
theorem len64_ev {x : Int} (h : 0 ≤ x ∧ x < 18446744073709551616) : Ev (fun k => bits_Len64.f k x) ((bl x.toNat : Nat) : Int) := by
  obtain ⟨n, rfl⟩ := Int.eq_ofNat_of_zero_le h.1
  rw [Int.toNat_natCast]
  unfold bits_Len64.f
  by_cases c : n ≥ 4294967296
  · (repeat (first | (with_reducible refine ev_pos ?_ ?_; focus (first | omega | assumption | (simp; done) | (simp; omega))) | (with_reducible refine ev_neg ?_ ?_; focus (first | omega | assumption | (simp; done) | (simp; omega)))))
    have e : bl n = 32 + bl (n / 4294967296) := bl_shift (k := 32) c
    have := len64_j0 (n := n / 4294967296) (by omega) (m := 32) (by omega)
    refine ev_eq this ?_
    omega
  · (repeat (first | (with_reducible refine ev_pos ?_ ?_; focus (first | omega | assumption | (simp; done) | (simp; omega))) | (with_reducible refine ev_neg ?_ ?_; focus (first | omega | assumption | (simp; done) | (simp; omega)))))
    have := len64_j0 (n := n) (by omega) (m := 0) (by omega)
    exact ev_eq this (by omega)

/-! ### the references' length -/
/-- the bits of a list: its highest digit's, and 32 for each other one -/
theorem bl_V {l : List Int} (h : Nm l) (h0 : l ≠ []) : bl (V l) = 32 * (l.length - 1) + bl (l.getD (l.length - 1) 0).toNat := by
  rcases List.eq_nil_or_concat l with rfl | ⟨a, d, rfl⟩
  · exact absurd rfl h0
  rw [List.concat_eq_append] at h ⊢
  have hd := h.dg d (by simp)
  have hn := Nm_last h
  have e : (a ++ [d]).getD ((a ++ [d]).length - 1) 0 = d := by simp
  rw [e]
  have hl : (a ++ [d]).length - 1 = a.length := by simp
  rw [hl, V_append]
  simp only [V_cons, V_nil, Nat.mul_zero, Nat.add_zero]
  have hv := V_lt h.dg.left
  have hp : (4294967296 : Nat) ^ a.length = 2 ^ (32 * a.length) := by rw [Nat.pow_mul]
  rw [hp] at hv ⊢
  have hpos : 0 < 2 ^ (32 * a.length) := Nat.pow_pos (by omega)
  have hd1 : 2 ^ (32 * a.length) * 1 ≤ 2 ^ (32 * a.length) * d.toNat := Nat.mul_le_mul_left _ (by omega)
  rw [bl_shift (n := V a + 2 ^ (32 * a.length) * d.toNat) (k := 32 * a.length) (by omega)]
  rw [Nat.add_mul_div_left _ _ hpos, Nat.div_eq_of_lt hv, Nat.zero_add]
end Go.Proofs.YtbcjdlljmhfhdaaDoor.Eng.K

/- The first layer's plain functions: times a power of two, bits. -/
set_option linter.unusedVariables false
set_option linter.unusedSimpArgs false
namespace Go.Proofs.YtbcjdlljmhfhdaaDoor.Eng.K
open Go.RowKit

/-! ### one digit -/
theorem pw {s : Nat} (h : s ≤ 32) : 2 ^ s * 2 ^ (32 - s) = 4294967296 := by
  rw [← Nat.pow_add]; have : s + (32 - s) = 32 := by omega
  rw [this]
theorem pw_pos (s : Nat) : 0 < 2 ^ s := Nat.pow_pos (by omega)
theorem shift_nat {X P Q c : Nat} (hP : 0 < P) (hc : c < P) : (X * P + c) / (P * Q) = X / Q ∧ (X * P + c) % (P * Q) = P * (X % Q) + c := by
  have h1 : (X * P + c) / P = X := by rw [Nat.mul_comm, Nat.mul_add_div hP, Nat.div_eq_of_lt hc, Nat.add_zero]
  have h2 : (X * P + c) % P = c := by rw [Nat.mul_comm, Nat.mul_add_mod, Nat.mod_eq_of_lt hc]
  exact ⟨by rw [← Nat.div_div_eq_div_mul, h1], by rw [Nat.mod_mul, h1, h2, Nat.add_comm]⟩
theorem pow_cast (s : Nat) : ((2 : Int) ^ s) = ((2 ^ s : Nat) : Int) := by simp
theorem shl32 (X s : Nat) (hs : s < 32) : shl .u32 (X : Int) (s : Int) = ((X * 2 ^ s % 4294967296 : Nat) : Int) := by
  unfold shl
  rw [Int.toNat_natCast, Nat.min_eq_left (by simp [IntKind.bits]; omega), pow_cast, ← Int.natCast_mul]
  simp [IntKind.wrap, IntKind.bits, IntKind.signed]
theorem shl64 (X s : Nat) (hs : s ≤ 32) (hX : X < 4294967296) : shl .u64 (X : Int) (s : Int) = ((X * 2 ^ s : Nat) : Int) := by
  unfold shl
  rw [Int.toNat_natCast, Nat.min_eq_left (by simp [IntKind.bits]; omega), pow_cast, ← Int.natCast_mul]
  have h1 : 2 ^ s ≤ 2 ^ 32 := Nat.pow_le_pow_right (by omega) hs
  have h2 : X * 2 ^ s ≤ 4294967295 * 2 ^ 32 := Nat.mul_le_mul (by omega) h1
  exact u64 (by omega) (by omega)
theorem shr_n {k : IntKind} (X s : Nat) (hs : s ≤ k.bits) : shr k (X : Int) (s : Int) = ((X / 2 ^ s : Nat) : Int) := by
  unfold shr
  rw [Int.toNat_natCast, Nat.min_eq_left hs, pow_cast, ← Int.natCast_ediv]
theorem wrap_u64n (X : Nat) (hX : X < 4294967296) : IntKind.u64.wrap (X : Int) = (X : Int) := u64 (by omega) (by omega)
theorem w32s {s : Nat} (hs : s ≤ 32) : wrap64 (32 - (s : Int)) = ((32 - s : Nat) : Int) := by unfold wrap64; omega
theorem div_lt_pw {X s : Nat} (hs : s ≤ 32) (hX : X < 4294967296) : X / 2 ^ s < 2 ^ (32 - s) := by
  rw [Nat.div_lt_iff_lt_mul (pw_pos _), Nat.mul_comm, pw hs]; exact hX
/-- up: the digit that stays -/
theorem up_digit (X s c : Nat) (hs : s < 32) (hX : X < 4294967296) (hc : c < 2 ^ s) : Go.bits .or .u32 (shl .u32 (X : Int) (s : Int)) (c : Int) = (((X * 2 ^ s + c) % 4294967296 : Nat) : Int) := by
  have h1 := (shift_nat (X := X) (Q := 2 ^ (32 - s)) (pw_pos s) hc).2
  have h0 := (shift_nat (X := X) (Q := 2 ^ (32 - s)) (c := 0) (pw_pos s) (pw_pos s)).2
  have hle : 2 ^ s ≤ 2 ^ 31 := Nat.pow_le_pow_right (by omega) (by omega)
  rw [pw (by omega)] at h1 h0
  rw [shl32 _ _ hs, u32_or_nat _ _ (by omega) (by omega), h1]
  rw [Nat.add_zero, Nat.add_zero] at h0
  rw [h0, ← Nat.two_pow_add_eq_or_of_lt hc]
theorem up_carry (X s c : Nat) (hs : s < 32) (hX : X < 4294967296) (hc : c < 2 ^ s) : (shr .u64 (IntKind.u64.wrap (X : Int)) (wrap64 (32 - (s : Int)))) % 4294967296 = (((X * 2 ^ s + c) / 4294967296 : Nat) : Int) := by
  have h1 := (shift_nat (X := X) (Q := 2 ^ (32 - s)) (pw_pos s) hc).1
  rw [pw (by omega)] at h1
  rw [wrap_u64n _ hX, w32s (by omega), shr_n _ _ (by simp [IntKind.bits]; omega), h1]
  have := div_lt_pw (s := 32 - s) (by omega) hX
  have h3 : X / 2 ^ (32 - s) ≤ X := Nat.div_le_self _ _
  omega
theorem up_carry_lt (X s c : Nat) (hs : s < 32) (hX : X < 4294967296) (hc : c < 2 ^ s) : (X * 2 ^ s + c) / 4294967296 < 2 ^ s := by
  have h1 := (shift_nat (X := X) (Q := 2 ^ (32 - s)) (pw_pos s) hc).1
  rw [pw (by omega)] at h1
  rw [h1]
  have := div_lt_pw (s := 32 - s) (by omega) hX
  have e : 32 - (32 - s) = s := by omega
  rwa [e] at this
/-! ### times 2^n -/
def upRec (P : Nat) : List Int → Nat → List Int
  | [], c => [(c : Int)]
  | d :: l, c => (((d.toNat * P + c) % 4294967296 : Nat) : Int) :: upRec P l ((d.toNat * P + c) / 4294967296)
theorem upRec_V {s : Nat} (hs : s < 32) : ∀ (l : List Int) (c : Nat), Dg l → c < 2 ^ s → V (upRec (2 ^ s) l c) = V l * 2 ^ s + c ∧ Dg (upRec (2 ^ s) l c)
  | [], c, _, hc => by
    have hle : 2 ^ s ≤ 2 ^ 31 := Nat.pow_le_pow_right (by omega) (by omega)
    simp only [upRec, V_cons, V_nil]
    exact ⟨by omega, Dg.cons (by omega) (by omega) Dg.nil⟩
  | d :: l, c, hg, hc => by
    have hd := hg.head
    have hX : d.toNat < 4294967296 := by omega
    have ih := upRec_V hs l _ hg.tail (up_carry_lt d.toNat s c hs hX hc)
    simp only [upRec, V_cons, ih.1]
    refine ⟨?_, Dg.cons (by omega) (by omega) ih.2⟩
    generalize hm : d.toNat * 2 ^ s + c = m
    rw [Nat.add_mul, Nat.mul_assoc]
    generalize V l * 2 ^ s = z
    omega
theorem nn {i : Nat} : 0 ≤ (i : Int) := Int.natCast_nonneg i
theorem up_l0 (A : List Int) (hA : Dg A) (hl : A.length < 1000000000) {s : Nat} (hs : s < 32) : ∀ (a done pa : List Int) (c : Nat), A = pa ++ a → c < 2 ^ s → Dg done → done.length + a.length < 2000000000 →
    Ev (fun k => nat_up.l0 k done s c A A.length pa.length) (D (V (done ++ upRec (2 ^ s) a c)))
  | [], done, pa, c, he, hc, hg, hb => by
    have hlen : A.length = pa.length := by rw [he]; simp
    have hle : 2 ^ s ≤ 2 ^ 31 := Nat.pow_le_pow_right (by omega) (by omega)
    refine ev_step ?_
    simp only [nat_up.l0]
    (repeat (first | (with_reducible refine ev_pos ?_ ?_; focus (first | omega | assumption | (simp; done) | (simp; omega))) | (with_reducible refine ev_neg ?_ ?_; focus (first | omega | assumption | (simp; done) | (simp; omega)))))
    exact Ev.bind (nat_trim_ev (hg.app (Dg.cons (by omega) (by omega) Dg.nil)) (by simp at hb ⊢; omega)) (Ev.now _)
  | d :: a, done, pa, c, he, hc, hg, hb => by
    have hlen : A.length = pa.length + 1 + a.length := by rw [he]; simp; omega
    have hd : 0 ≤ d ∧ d < 4294967296 := by rw [he] at hA; exact hA.right.head
    obtain ⟨X, rfl⟩ := Int.eq_ofNat_of_zero_le hd.1
    have hX : X < 4294967296 := by omega
    have h1 : rd A (pa.length : Int) = (X : Int) := by rw [he]; exact rd_app rfl
    refine ev_step ?_
    simp only [nat_up.l0, h1, w64s (n := pa.length) (by omega), up_digit X s c hs hX hc, up_carry X s c hs hX hc]
    have w32 : wrap64 (32 - (s : Int)) = 32 - (s : Int) := by unfold wrap64; omega
    (repeat (first | (with_reducible refine ev_pos ?_ ?_; focus (first | omega | assumption | (simp; done) | (simp; omega))) | (with_reducible refine ev_neg ?_ ?_; focus (first | omega | assumption | (simp; done) | (simp; omega)))))
    have := up_l0 A hA hl hs a (done ++ [(((X * 2 ^ s + c) % 4294967296 : Nat) : Int)]) (pa ++ [(X : Int)]) ((X * 2 ^ s + c) / 4294967296) (by rw [he]; simp) (up_carry_lt X s c hs hX hc) (hg.app (Dg.cons (by omega) (by omega) Dg.nil)) (by simp at hb ⊢; omega)
    rw [List.length_append, List.length_singleton] at this
    refine ev_eq this ?_
    simp [upRec]
theorem t32 {n : Nat} (h : n < 4611686018427387904) : wrap64 (Int.tdiv (n : Int) 32) = ((n / 32 : Nat) : Int) := by
  rw [Int.tdiv_eq_ediv_of_nonneg (by omega)]; unfold wrap64; omega
theorem m32 (n : Nat) : Int.tmod (n : Int) 32 = ((n % 32 : Nat) : Int) := by
  rw [Int.tmod_eq_emod_of_nonneg (by omega)]; omega
theorem pw_split (n : Nat) : 2 ^ n = 4294967296 ^ (n / 32) * 2 ^ (n % 32) := by
  have h : (4294967296 : Nat) = 2 ^ 32 := by decide
  rw [h, ← Nat.pow_mul, ← Nat.pow_add]; congr 1; omega
theorem up_V {a : List Int} (ha : Dg a) (n : Nat) : V (List.replicate (n / 32) 0 ++ upRec (2 ^ (n % 32)) a 0) = V a * 2 ^ n := by
  have h := (upRec_V (s := n % 32) (by omega) a 0 ha (pw_pos _)).1
  rw [V_append, V_zeros, List.length_replicate, h, Nat.zero_add, Nat.add_zero, pw_split n, Nat.mul_left_comm]
theorem nat_up_ev {a : List Int} (ha : Dg a) (la : a.length < 1000000000) (n : Nat) (hn : n < 1000000000) : Ev (fun k => nat_up.f k a n) (D (V a * 2 ^ n)) := by
  unfold nat_up.f
  have e1 : wrap64 (wrap64 (((n / 32 : Nat) : Int) + (a.length : Int)) + 1) = ((n / 32 + a.length + 1 : Nat) : Int) := by unfold wrap64; omega
  simp only [t32 (n := n) (by omega), m32, e1]
  clear e1
  by_cases h0 : a = []
  · subst h0
    (repeat (first | (with_reducible refine ev_pos ?_ ?_; focus (first | omega | assumption | (simp; done) | (simp; omega))) | (with_reducible refine ev_neg ?_ ?_; focus (first | omega | assumption | (simp; done) | (simp; omega)))))
    exact ev_eq (Ev.now _) (by simp [D_zero])
  · have : 0 < a.length := List.length_pos_iff.2 h0
    (repeat (first | (with_reducible refine ev_pos ?_ ?_; focus (first | omega | assumption | (simp; done) | (simp; omega))) | (with_reducible refine ev_neg ?_ ?_; focus (first | omega | assumption | (simp; done) | (simp; omega)))))
    have h := up_l0 a ha la (s := n % 32) (by omega) a (List.replicate (n / 32) 0) [] 0 rfl (pw_pos _) (Dg.zeros _) (by simp; omega)
    rw [up_V ha] at h
    simp only [Int.toNat_natCast]
    simpa using h
end Go.Proofs.YtbcjdlljmhfhdaaDoor.Eng.K

/- The first layer's plain functions: a power of two off, bits. -/
set_option linter.unusedVariables false
set_option linter.unusedSimpArgs false
namespace Go.Proofs.YtbcjdlljmhfhdaaDoor.Eng.K
open Go.RowKit

theorem pw' {s : Nat} (h : s ≤ 32) : 2 ^ (32 - s) * 2 ^ s = 4294967296 := by rw [Nat.mul_comm]; exact pw h
theorem V_drop {l : List Int} (h : Dg l) (q : Nat) : V (l.drop q) = V l / 4294967296 ^ q := by
  by_cases hq : q ≤ l.length
  · have e : V l = V (l.take q) + 4294967296 ^ q * V (l.drop q) := by
      conv => lhs; rw [← List.take_append_drop q l, V_append, List.length_take, Nat.min_eq_left hq]
    have hlt : V (l.take q) < 4294967296 ^ q := by
      have := V_lt (h.take q); rwa [List.length_take, Nat.min_eq_left hq] at this
    rw [e, Nat.add_mul_div_left _ _ (Nat.pow_pos (by omega)), Nat.div_eq_of_lt hlt, Nat.zero_add]
  · rw [List.drop_eq_nil_of_le (by omega), V_nil, Nat.div_eq_of_lt]
    exact Nat.lt_of_lt_of_le (V_lt h) (Nat.pow_le_pow_right (by omega) (by omega))
theorem lt_cast {m : Nat} (h : m < 4294967296) : (m : Int) < 4294967296 := by omega
theorem down_shl (Y s : Nat) (hs : s < 32) (hY : Y < 4294967296) : (shl .u64 (IntKind.u64.wrap (Y : Int)) (wrap64 (32 - (s : Int)))) % 4294967296 = ((2 ^ (32 - s) * (Y % 2 ^ s) : Nat) : Int) := by
  rw [wrap_u64n _ hY, w32s (by omega), shl64 _ _ (by omega) hY]
  have h := (shift_nat (X := Y) (P := 2 ^ (32 - s)) (Q := 2 ^ s) (c := 0) (pw_pos _) (pw_pos _)).2
  rw [pw' (by omega), Nat.add_zero, Nat.add_zero] at h
  rw [← h]; omega
theorem down_lt (X Y s : Nat) (hs : s < 32) (hX : X < 4294967296) : X / 2 ^ s + 2 ^ (32 - s) * (Y % 2 ^ s) < 4294967296 := by
  have h1 := div_lt_pw (s := s) (by omega) hX
  have h2 : Y % 2 ^ s + 1 ≤ 2 ^ s := Nat.mod_lt _ (pw_pos _)
  have h3 := Nat.mul_le_mul_left (2 ^ (32 - s)) h2
  rw [pw' (by omega), Nat.mul_add] at h3
  omega
theorem down_digit (X Y s : Nat) (hs : s < 32) (hX : X < 4294967296) (hY : Y < 4294967296) : Go.bits .or .u32 ((X / 2 ^ s : Nat) : Int) ((shl .u64 (IntKind.u64.wrap (Y : Int)) (wrap64 (32 - (s : Int)))) % 4294967296) = ((X / 2 ^ s + 2 ^ (32 - s) * (Y % 2 ^ s) : Nat) : Int) := by
  have hl := down_lt X Y s hs hX
  rw [down_shl Y s hs hY, u32_or_nat _ _ (Nat.lt_of_le_of_lt (Nat.le_add_right _ _) hl) (Nat.lt_of_le_of_lt (Nat.le_add_left _ _) hl), Nat.or_comm, ← Nat.two_pow_add_eq_or_of_lt (div_lt_pw (by omega) hX), Nat.add_comm]
def downRec (s : Nat) : List Int → List Int
  | [] => []
  | d :: l => ((d.toNat / 2 ^ s + 2 ^ (32 - s) * ((l.headD 0).toNat % 2 ^ s) : Nat) : Int) :: downRec s l
theorem V_mod_pw {l : List Int} {s : Nat} (hs : s ≤ 32) : V l % 2 ^ s = (l.headD 0).toNat % 2 ^ s := by
  cases l with
  | nil => simp
  | cons d l =>
    have h := pw (s := s) hs
    simp only [V_cons, List.headD_cons]
    rw [← h, Nat.mul_assoc, Nat.add_mul_mod_self_left]
theorem downRec_V {s : Nat} (hs : s < 32) : ∀ (l : List Int), Dg l → V (downRec s l) = V l / 2 ^ s ∧ Dg (downRec s l)
  | [], _ => by simp [downRec, Dg.nil]
  | d :: l, hg => by
    have hd := hg.head
    have ih := downRec_V hs l hg.tail
    have hl := down_lt d.toNat (l.headD 0).toNat s hs (by omega)
    simp only [downRec, V_cons, ih.1]
    refine ⟨?_, Dg.cons nn (lt_cast hl) ih.2⟩
    rw [← V_mod_pw (l := l) (by omega), Int.toNat_natCast]
    have h := pw (s := s) (by omega)
    have h' := pw' (s := s) (by omega)
    have e1 : (d.toNat + 4294967296 * V l) / 2 ^ s = d.toNat / 2 ^ s + 2 ^ (32 - s) * V l := by
      rw [← h, Nat.mul_assoc, Nat.add_mul_div_left _ _ (pw_pos _)]
    have e2 : 2 ^ (32 - s) * V l = 2 ^ (32 - s) * (V l % 2 ^ s) + 4294967296 * (V l / 2 ^ s) := by
      rw [← h', Nat.mul_assoc, ← Nat.mul_add, Nat.mod_add_div]
    rw [e1, e2, Nat.add_assoc]
theorem down_V {a : List Int} (ha : Dg a) (n : Nat) : V (downRec (n % 32) (a.drop (n / 32))) = V a / 2 ^ n := by
  rw [(downRec_V (by omega) _ (ha.drop _)).1, V_drop ha, Nat.div_div_eq_div_mul, ← pw_split]

theorem down_l0 (A : List Int) (hA : Dg A) (hl : A.length < 1000000000) {s : Nat} (hs : s < 32) : ∀ (a done pa : List Int), A = pa ++ a → done.length = pa.length → Dg done →
    Ev (fun k => nat_down.l0 k A s (done ++ List.replicate a.length 0) A A.length pa.length) (D (V (done ++ downRec s a)))
  | [], done, pa, he, hd, hg => by
    have hlen : A.length = pa.length := by rw [he]; simp
    refine ev_step ?_
    simp only [nat_down.l0]
    (repeat (first | (with_reducible refine ev_pos ?_ ?_; focus (first | omega | assumption | (simp; done) | (simp; omega))) | (with_reducible refine ev_neg ?_ ?_; focus (first | omega | assumption | (simp; done) | (simp; omega)))))
    simp only [List.length_nil, List.replicate_zero, downRec]
    exact Ev.bind (nat_trim_ev (l := done ++ []) (by simpa using hg) (by simp; omega)) (Ev.now _)
  | d :: a, done, pa, he, hd, hg => by
    have hlen : A.length = pa.length + 1 + a.length := by rw [he]; simp; omega
    have hdd : 0 ≤ d ∧ d < 4294967296 := by rw [he] at hA; exact hA.right.head
    obtain ⟨X, rfl⟩ := Int.eq_ofNat_of_zero_le hdd.1
    have hX : X < 4294967296 := by omega
    have h1 : rd A (pa.length : Int) = (X : Int) := by rw [he]; exact rd_app rfl
    have hg2 : Dg (a) := by rw [he] at hA; exact hA.right.tail
    have hy := hg2.headD
    have ih := down_l0 A hA hl hs a (done ++ [((X / 2 ^ s + 2 ^ (32 - s) * ((a.headD 0).toNat % 2 ^ s) : Nat) : Int)]) (pa ++ [(X : Int)]) (by rw [he]; simp) (by simp [hd])
      (hg.app (Dg.cons nn (lt_cast (down_lt X (a.headD 0).toNat s hs hX)) Dg.nil))
    rw [@List.length_append _ pa, List.length_singleton] at ih
    refine ev_step ?_
    have hset : (done ++ List.replicate ((X : Int) :: a).length 0).set ((pa.length : Int)).toNat ((X / 2 ^ s : Nat) : Int) = (done ++ [((X / 2 ^ s : Nat) : Int)]) ++ List.replicate a.length 0 := by
      rw [List.length_cons, List.replicate_succ, set_app (by omega)]
    simp only [nat_down.l0, h1, w64s (n := pa.length) (by omega), shr_n (k := .u32) X s (by simp [IntKind.bits]; omega), hset, Option.bind_some]
    have w32 : wrap64 (32 - (s : Int)) = 32 - (s : Int) := by unfold wrap64; omega
    (repeat (first | (with_reducible refine ev_pos ?_ ?_; focus (first | omega | assumption | (simp; done) | (simp; omega))) | (with_reducible refine ev_neg ?_ ?_; focus (first | omega | assumption | (simp; done) | (simp; omega)))))
    by_cases hn : a = []
    · subst hn
      simp only [List.length_nil, Nat.add_zero] at hlen
      (repeat (first | (with_reducible refine ev_pos ?_ ?_; focus (first | omega | assumption | (simp; done) | (simp; omega))) | (with_reducible refine ev_neg ?_ ?_; focus (first | omega | assumption | (simp; done) | (simp; omega)))))
      refine ev_eq (by simpa [downRec] using ih) ?_
      simp [downRec]
    · obtain ⟨y, a', rfl⟩ := List.exists_cons_of_ne_nil hn
      obtain ⟨Y, rfl⟩ := Int.eq_ofNat_of_zero_le hy.1
      simp only [List.headD_cons] at hy ih
      have hlen' := hlen
      simp only [List.length_cons] at hlen'
      have h2 : rd A ((pa.length + 1 : Nat) : Int) = (Y : Int) := by rw [he, show pa ++ (X : Int) :: (Y : Int) :: a' = (pa ++ [(X : Int)]) ++ (Y : Int) :: a' by simp]; exact rd_app (by simp)
      have h3 : rd (done ++ [((X / 2 ^ s : Nat) : Int)] ++ List.replicate ((Y : Int) :: a').length 0) (pa.length : Int) = ((X / 2 ^ s : Nat) : Int) := by rw [List.append_assoc, List.singleton_append]; exact rd_app (by omega)
      have hset2 : (done ++ [((X / 2 ^ s : Nat) : Int)] ++ List.replicate ((Y : Int) :: a').length 0).set ((pa.length : Int)).toNat ((X / 2 ^ s + 2 ^ (32 - s) * (Y % 2 ^ s) : Nat) : Int) = done ++ [((X / 2 ^ s + 2 ^ (32 - s) * (Y % 2 ^ s) : Nat) : Int)] ++ List.replicate ((Y : Int) :: a').length 0 := by
        rw [List.append_assoc, List.singleton_append, set_app (by omega)]
      simp only [h2, h3, down_digit X Y s hs hX (by omega), hset2]
      (repeat (first | (with_reducible refine ev_pos ?_ ?_; focus (first | omega | assumption | (simp; done) | (simp; omega))) | (with_reducible refine ev_neg ?_ ?_; focus (first | omega | assumption | (simp; done) | (simp; omega)))))
      rw [Int.toNat_natCast] at ih
      refine ev_eq ih ?_
      simp [downRec]
theorem nat_down_ev {a : List Int} (ha : Dg a) (la : a.length < 1000000000) (n : Nat) (hn : n < 100000000000) : Ev (fun k => nat_down.f k a n) (D (V a / 2 ^ n)) := by
  unfold nat_down.f
  simp only [t32 (n := n) (by omega), m32]
  by_cases h : n / 32 ≥ a.length
  · (repeat (first | (with_reducible refine ev_pos ?_ ?_; focus (first | omega | assumption | (simp; done) | (simp; omega))) | (with_reducible refine ev_neg ?_ ?_; focus (first | omega | assumption | (simp; done) | (simp; omega)))))
    have : V a / 2 ^ n = 0 := by
      rw [pw_split, ← Nat.div_div_eq_div_mul, ← V_drop ha, List.drop_eq_nil_of_le h]; simp
    rw [this, D_zero]; exact Ev.now _
  · (repeat (first | (with_reducible refine ev_pos ?_ ?_; focus (first | omega | assumption | (simp; done) | (simp; omega))) | (with_reducible refine ev_neg ?_ ?_; focus (first | omega | assumption | (simp; done) | (simp; omega)))))
    have h := down_l0 (a.drop (n / 32)) (ha.drop _) (by simp; omega) (s := n % 32) (by omega) (a.drop (n / 32)) [] [] rfl rfl Dg.nil
    simp only [List.nil_append, down_V ha] at h
    simp only [Int.toNat_natCast]
    simpa using h

/-! ### bits -/
end Go.Proofs.YtbcjdlljmhfhdaaDoor.Eng.K

/- The first layer's reference: quotients bit by bit. -/
set_option linter.unusedVariables false
set_option linter.unusedSimpArgs false
namespace Go.Proofs.YtbcjdlljmhfhdaaDoor.Eng.K
open Go.RowKit

theorem bl_list {l : List Int} (h : Dg l) : bl (V l) ≤ 32 * l.length := by
  apply bl_le_of_lt
  have := V_lt h
  rwa [show (4294967296 : Nat) = 2 ^ 32 from rfl, ← Nat.pow_mul] at this
theorem D_lt {n k : Nat} (h : n < 4294967296 ^ k) : (D n).length ≤ k := by
  rcases Nat.lt_or_ge k (D n).length with h1 | h1
  · have h2 := D_len_pos (Nm_D n) (by intro e; rw [e] at h1; simp at h1)
    rw [V_D] at h2
    have h3 : 4294967296 ^ k ≤ 4294967296 ^ ((D n).length - 1) := Nat.pow_le_pow_right (by omega) (by omega)
    omega
  · exact h1
/-! ### quotients -/
end Go.Proofs.YtbcjdlljmhfhdaaDoor.Eng.K

/- The first layer's long division: one digit of the quotient. -/
set_option linter.unusedVariables false
set_option linter.unusedSimpArgs false
namespace Go.Proofs.YtbcjdlljmhfhdaaDoor.Eng.K
open Go.RowKit

/-! ### the guess -/
theorem u64_n {n : Nat} (h : n < 18446744073709551616) : IntKind.u64.wrap (n : Int) = (n : Int) := u64 (by omega) (by omega)
end Go.Proofs.YtbcjdlljmhfhdaaDoor.Eng.K

/- The first layer's long division: a digit of the quotient. -/
set_option linter.unusedVariables false
set_option linter.unusedSimpArgs false
namespace Go.Proofs.YtbcjdlljmhfhdaaDoor.Eng.K
open Go.RowKit

theorem tdiv_n (a b : Nat) : Int.tdiv (a : Int) (b : Int) = ((a / b : Nat) : Int) := rfl
theorem tmod_n (a b : Nat) : Int.tmod (a : Int) (b : Int) = ((a % b : Nat) : Int) := rfl
end Go.Proofs.YtbcjdlljmhfhdaaDoor.Eng.K

/- The first layer's long division. -/
set_option linter.unusedVariables false
set_option linter.unusedSimpArgs false
namespace Go.Proofs.YtbcjdlljmhfhdaaDoor.Eng.K
open Go.RowKit

theorem w3 {i m : Nat} (h1 : i < 100000000) (h2 : m < 100000000) : wrap64 (wrap64 ((i : Int) + ((m + 2 : Nat) : Int)) + 1) = ((i + (m + 3) : Nat) : Int) := by unfold wrap64; omega
end Go.Proofs.YtbcjdlljmhfhdaaDoor.Eng.K

/- The place of the lowest bit: what it is; the program's way to it, and the reference's. -/
set_option linter.unusedVariables false
set_option linter.unusedSimpArgs false
namespace Go.Proofs.YtbcjdlljmhfhdaaDoor.Eng.K
open Go.RowKit

theorem mx_eq (a b : Int) : mx a b = max a b := by unfold mx; split <;> omega
theorem nat_Len_ev {l : List Int} (h : Nm l) (hb : l.length ≤ 4096) : Ev (fun k => nat_Len.f k l) ((bl (V l) : Nat) : Int) := by
  unfold nat_Len.f
  refine ev_bind (nat_May_eq h.dg (by omega)) ?_
  rw [may_iff.2 ⟨hb, h⟩]
  (repeat (first | (with_reducible refine ev_pos ?_ ?_; focus (first | omega | assumption | (simp; done) | (simp; omega))) | (with_reducible refine ev_neg ?_ ?_; focus (first | omega | assumption | (simp; done) | (simp; omega)))))
  by_cases c : l.length = 0
  · have : l = [] := List.eq_nil_of_length_eq_zero c
    subst this
    (repeat (first | (with_reducible refine ev_pos ?_ ?_; focus (first | omega | assumption | (simp; done) | (simp; omega))) | (with_reducible refine ev_neg ?_ ?_; focus (first | omega | assumption | (simp; done) | (simp; omega)))))
    exact ev_eq (Ev.now _) rfl
  · have e : wrap64 ((l.length : Int) - 1) = ((l.length - 1 : Nat) : Int) := by unfold wrap64; omega
    rw [e]
    clear e
    have hd := h.dg.getD (l.length - 1)
    have hne : l ≠ [] := fun e => c (by rw [e]; rfl)
    rw [rdn]
    (repeat (first | (with_reducible refine ev_pos ?_ ?_; focus (first | omega | assumption | (simp; done) | (simp; omega))) | (with_reducible refine ev_neg ?_ ?_; focus (first | omega | assumption | (simp; done) | (simp; omega)))))
    refine Ev.bind (len32_ev hd) (ev_eq (Ev.now _) ?_)
    rw [bl_V h hne]
    generalize l.getD (l.length - 1) 0 = x at hd
    have hbn : bl x.toNat ≤ 32 := bl_le_of_lt (by omega)
    unfold wrap64
    omega

/-- The lowest bit's place: n is 2 to it times an odd number. -/
def IsLow (n b : Nat) : Prop := ∃ m, n = 2 ^ b * (2 * m + 1)
theorem IsLow.ne {n b : Nat} (h : IsLow n b) : n ≠ 0 := by
  obtain ⟨m, h⟩ := h
  have := Nat.mul_pos (pw_pos b) (show 0 < 2 * m + 1 by omega)
  omega
theorem IsLow.le {n b : Nat} (h : IsLow n b) : 2 ^ b ≤ n := by
  obtain ⟨m, h⟩ := h
  rw [h]; exact Nat.le_mul_of_pos_right _ (by omega)
theorem IsLow.mod {n b k : Nat} (h : IsLow n b) : n % 2 ^ k = 0 ↔ k ≤ b := by
  obtain ⟨m, h⟩ := h
  constructor
  · intro hk
    rcases Nat.lt_or_ge b k with h1 | h1
    · exfalso
      obtain ⟨d, rfl⟩ := Nat.exists_eq_add_of_lt h1
      have hd : 2 ^ (b + d + 1) ∣ 2 ^ b * (2 * m + 1) := by rw [← h]; exact Nat.dvd_of_mod_eq_zero hk
      rw [Nat.add_assoc, Nat.pow_add] at hd
      have h2 := Nat.dvd_of_mul_dvd_mul_left (pw_pos b) hd
      rw [Nat.pow_succ] at h2
      have h3 : 2 ∣ 2 * m + 1 := Nat.dvd_trans (Nat.dvd_mul_left 2 _) h2
      omega
    · exact h1
  · intro hk
    obtain ⟨d, rfl⟩ := Nat.exists_eq_add_of_le hk
    rw [h, Nat.pow_add, Nat.mul_assoc]
    exact Nat.mul_mod_right _ _
theorem IsLow.unique {n b c : Nat} (h : IsLow n b) (k : IsLow n c) : b = c := by
  have h1 := (h.mod (k := b)).2 (Nat.le_refl _)
  have h2 := (k.mod (k := c)).2 (Nat.le_refl _)
  have h3 := k.mod.1 h1
  have h4 := h.mod.1 h2
  omega
theorem isLow_up {n b k : Nat} (h : IsLow n b) : IsLow (n * 2 ^ k) (b + k) := by
  obtain ⟨m, h⟩ := h
  exact ⟨m, by rw [h, Nat.pow_add, Nat.mul_assoc, Nat.mul_comm (2 * m + 1), ← Nat.mul_assoc]⟩
theorem isLow_ctz {x : Nat} (h : x ≠ 0) (hx : x < 4294967296) : IsLow x (Lib.ctz 32 x) ∧ Lib.ctz 32 x < 32 := by
  obtain ⟨m, h1, h2⟩ := Lib.ctzFrom_spec 32 x (by omega) hx
  unfold Lib.ctz
  rw [if_neg h]
  exact ⟨⟨m, h1⟩, h2⟩
theorem isLow_add {x r b : Nat} (h : IsLow x b) (hb : b < 32) : IsLow (x + 4294967296 * r) b := by
  obtain ⟨m, h⟩ := h
  obtain ⟨d, hd⟩ : ∃ d, 32 = b + (d + 1) := ⟨31 - b, by omega⟩
  have e : 4294967296 = 2 ^ b * (2 ^ d * 2) := by
    rw [← Nat.pow_succ, ← Nat.pow_add, Nat.succ_eq_add_one, ← hd]
  have e2 : 2 ^ b * (2 ^ d * 2) * r = 2 ^ b * (2 * (2 ^ d * r)) := by
    rw [Nat.mul_assoc, Nat.mul_comm (2 ^ d) 2, Nat.mul_assoc]
  refine ⟨m + 2 ^ d * r, ?_⟩
  rw [h, e, e2, ← Nat.mul_add]
  congr 1
  omega
def lw (n : Nat) : Nat := if n = 0 then 0 else Lib.ctzFrom n n
theorem lw_is {n : Nat} (h : n ≠ 0) : IsLow n (lw n) := by
  obtain ⟨m, h1, _⟩ := Lib.ctzFrom_spec n n (by omega) Nat.lt_two_pow_self
  unfold lw
  rw [if_neg h]
  exact ⟨m, h1⟩
theorem lw_eq {n b : Nat} (h : IsLow n b) : lw n = b := (lw_is h.ne).unique h
theorem tz_eq {x : Int} (h : 0 ≤ x ∧ x < 4294967296) : bits_TrailingZeros32.f x = some ((Lib.ctz 32 x.toNat : Nat) : Int) := by
  unfold bits_TrailingZeros32.f
  rw [if_pos h]
theorem w32a {i b : Nat} (hi : i < 1000000) (hb : b < 32) : wrap64 (wrap64 (32 * (i : Int)) + (b : Int)) = ((b + 32 * i : Nat) : Int) := by unfold wrap64; omega
theorem nlow_l0 (A : List Int) (hA : Dg A) (hl : A.length < 1000000) : ∀ (a pa : List Int), A = pa ++ a → V pa = 0 → Ev (fun k => nat_Low.l0 k A A.length pa.length) ((lw (V A) : Nat) : Int)
  | [], pa, he, hv => by
    have hlen : A.length = pa.length := by rw [he]; simp
    refine ev_step ?_
    simp only [nat_Low.l0]
    (repeat (first | (with_reducible refine ev_pos ?_ ?_; focus (first | omega | assumption | (simp; done) | (simp; omega))) | (with_reducible refine ev_neg ?_ ?_; focus (first | omega | assumption | (simp; done) | (simp; omega)))))
    refine ev_eq (Ev.now _) ?_
    have : V A = 0 := by rw [he, List.append_nil, hv]
    rw [this]; rfl
  | d :: a, pa, he, hv => by
    have hlen : A.length = pa.length + 1 + a.length := by rw [he]; simp; omega
    have hdd : 0 ≤ d ∧ d < 4294967296 := by rw [he] at hA; exact hA.right.head
    have h1 : rd A (pa.length : Int) = d := by rw [he]; exact rd_app rfl
    refine ev_step ?_
    simp only [nat_Low.l0, h1, w64s (n := pa.length) (by omega)]
    (repeat (first | (with_reducible refine ev_pos ?_ ?_; focus (first | omega | assumption | (simp; done) | (simp; omega))) | (with_reducible refine ev_neg ?_ ?_; focus (first | omega | assumption | (simp; done) | (simp; omega)))))
    by_cases h0 : d = 0
    · refine ev_neg (fun h => h h0) ?_
      have := nlow_l0 A hA hl a (pa ++ [0]) (by rw [he, h0]; simp) (by rw [V_snoc_zero, hv])
      rwa [@List.length_append _ pa, List.length_singleton] at this
    · refine ev_pos h0 ?_
      refine ev_bind (tz_eq hdd) ?_
      (repeat (first | (with_reducible refine ev_pos ?_ ?_; focus (first | omega | assumption | (simp; done) | (simp; omega))) | (with_reducible refine ev_neg ?_ ?_; focus (first | omega | assumption | (simp; done) | (simp; omega)))))
      refine ev_eq (Ev.now _) ?_
      have hz := isLow_ctz (x := d.toNat) (by omega) (by omega)
      have e : V A = (d.toNat + 4294967296 * V a) * 2 ^ (32 * pa.length) := by
        rw [he, V_append, hv, V_cons, Nat.zero_add, Nat.mul_comm, Nat.pow_mul]
      rw [e, lw_eq (isLow_up (isLow_add hz.1 hz.2)), w32a (by omega) hz.2]
theorem nat_Low_ev {a : List Int} (ha : Nm a) (la : a.length ≤ 4096) : Ev (fun k => nat_Low.f k a) ((lw (V a) : Nat) : Int) := by
  unfold nat_Low.f
  refine ev_bind (nat_May_eq ha.dg (by omega)) ?_
  rw [may_iff.2 ⟨la, ha⟩]
  (repeat (first | (with_reducible refine ev_pos ?_ ?_; focus (first | omega | assumption | (simp; done) | (simp; omega))) | (with_reducible refine ev_neg ?_ ?_; focus (first | omega | assumption | (simp; done) | (simp; omega)))))
  exact nlow_l0 a ha.dg (by omega) a [] rfl rfl
theorem V_digit {l : List Int} (h : Dg l) (q : Nat) : V l / 4294967296 ^ q % 4294967296 = (l.getD q 0).toNat := by
  have h1 := V_headtail (l.drop q)
  rw [drop_headD, V_drop h] at h1
  have h2 := h.getD q
  rw [h1, Nat.add_mul_mod_self_left, Nat.mod_eq_of_lt (by omega)]
theorem lw_mod {n k : Nat} (h : n ≠ 0) : k > lw n ↔ n % 2 ^ k ≠ 0 := by
  have := (lw_is h).mod (k := k)
  constructor
  · intro h1 h2; have := this.1 h2; omega
  · intro h1; rcases Nat.lt_or_ge (lw n) k with h2 | h2
    · exact h2
    · exact absurd (this.2 h2) h1
def shiftR (v : Nat) (n : Int) : List Int × Bool × Int :=
  if v = 0 then ([], false, 0) else if n < -131072 then ([], true, 0) else if n < 0 then (D (v / 2 ^ (-n).toNat), decide (v % 2 ^ (-n).toNat ≠ 0), 0) else if n > 131072 - (bl v : Int) then ([], false, 3) else (D (v * 2 ^ n.toNat), false, 0)
theorem nat_Shift_ev {a : List Int} (ha : Nm a) (la : a.length ≤ 4096) (n : Int) : Ev (fun k => nat_Shift.f k a n) (shiftR (V a) n) := by
  unfold nat_Shift.f shiftR
  refine ev_bind (nat_May_eq ha.dg (by omega)) ?_
  rw [may_iff.2 ⟨la, ha⟩]
  (repeat (first | (with_reducible refine ev_pos ?_ ?_; focus (first | omega | assumption | (simp; done) | (simp; omega))) | (with_reducible refine ev_neg ?_ ?_; focus (first | omega | assumption | (simp; done) | (simp; omega)))))
  by_cases c : a = []
  · subst c
    (repeat (first | (with_reducible refine ev_pos ?_ ?_; focus (first | omega | assumption | (simp; done) | (simp; omega))) | (with_reducible refine ev_neg ?_ ?_; focus (first | omega | assumption | (simp; done) | (simp; omega)))))
    exact ev_eq (Ev.now _) (by simp)
  have h0 : V a ≠ 0 := fun h => c ((V_eq_zero ha).1 h)
  have hl : a.length ≠ 0 := fun h => c (List.eq_nil_of_length_eq_zero h)
  have hbl := bl_list ha.dg
  rw [if_neg h0]
  (repeat (first | (with_reducible refine ev_pos ?_ ?_; focus (first | omega | assumption | (simp; done) | (simp; omega))) | (with_reducible refine ev_neg ?_ ?_; focus (first | omega | assumption | (simp; done) | (simp; omega)))))
  by_cases h1 : n < -131072
  · rw [if_pos h1]; exact ev_pos h1 (Ev.now _)
  rw [if_neg h1]
  refine ev_neg h1 ?_
  by_cases h2 : n < 0
  · rw [if_pos h2]
    have e : wrap64 (-n) = (((-n).toNat : Nat) : Int) := by unfold wrap64; omega
    rw [e]
    clear e
    have hm : (-n).toNat ≤ 131072 := by omega
    generalize (-n).toNat = m at *
    refine ev_pos h2 ?_
    refine Ev.bind (nat_down_ev ha.dg (by omega) m (by omega)) ?_
    (repeat (first | (with_reducible refine ev_pos ?_ ?_; focus (first | omega | assumption | (simp; done) | (simp; omega))) | (with_reducible refine ev_neg ?_ ?_; focus (first | omega | assumption | (simp; done) | (simp; omega)))))
    refine Ev.bind (nat_Low_ev ha la) ?_
    (repeat (first | (with_reducible refine ev_pos ?_ ?_; focus (first | omega | assumption | (simp; done) | (simp; omega))) | (with_reducible refine ev_neg ?_ ?_; focus (first | omega | assumption | (simp; done) | (simp; omega)))))
    refine ev_eq (Ev.now _) ?_
    congr 2
    exact decide_eq_decide.2 (by rw [← lw_mod h0]; omega)
  · rw [if_neg h2]
    have e : wrap64 (131072 - ((bl (V a) : Nat) : Int)) = 131072 - ((bl (V a) : Nat) : Int) := by unfold wrap64; omega
    refine ev_neg h2 ?_
    refine Ev.bind (nat_Len_ev ha la) ?_
    (repeat (first | (with_reducible refine ev_pos ?_ ?_; focus (first | omega | assumption | (simp; done) | (simp; omega))) | (with_reducible refine ev_neg ?_ ?_; focus (first | omega | assumption | (simp; done) | (simp; omega)))))
    rw [e]
    clear e
    by_cases h3 : n > 131072 - ((bl (V a) : Nat) : Int)
    · rw [if_pos h3]; exact ev_pos h3 (Ev.now _)
    · rw [if_neg h3]
      obtain ⟨m, rfl⟩ := Int.eq_ofNat_of_zero_le (show 0 ≤ n by omega)
      refine ev_neg h3 ?_
      refine Ev.bind (nat_up_ev ha.dg (by omega) m (by omega)) ?_
      (repeat (first | (with_reducible refine ev_pos ?_ ?_; focus (first | omega | assumption | (simp; done) | (simp; omega))) | (with_reducible refine ev_neg ?_ ?_; focus (first | omega | assumption | (simp; done) | (simp; omega)))))
      refine ev_eq (Ev.now _) ?_
      rw [Int.toNat_natCast]
theorem len_bl {x k : Nat} (h : bl x ≤ 32 * k) : (D x).length ≤ k := by
  refine D_lt ?_
  have e : 4294967296 ^ k = 2 ^ (32 * k) := by rw [Nat.pow_mul]
  rw [e]
  exact Nat.lt_of_lt_of_le (lt_bl x) (Nat.pow_le_pow_right (by omega) h)
theorem bl_up {v : Nat} (h : v ≠ 0) (m : Nat) : bl (v * 2 ^ m) = bl v + m := by
  rw [bl_shift (n := v * 2 ^ m) (k := m) (Nat.le_mul_of_pos_left _ (by omega)), Nat.mul_div_cancel _ (pw_pos m), Nat.add_comm]
theorem bl_down (v m : Nat) : bl (v / 2 ^ m) = bl v - m := by
  rcases Nat.lt_or_ge v (2 ^ m) with h | h
  · rw [Nat.div_eq_of_lt h, bl_zero]
    have := bl_le_of_lt h
    omega
  · rw [bl_shift h]; omega
theorem shiftR_up {v m : Nat} (h : bl v + m ≤ 131072) : shiftR v (m : Int) = (D (v * 2 ^ m), false, 0) := by
  unfold shiftR
  by_cases hv : v = 0
  · rw [if_pos hv, hv, Nat.zero_mul, D_zero]
  · rw [if_neg hv, if_neg (by omega), if_neg (by omega), if_neg (by omega), Int.toNat_natCast]
theorem shiftR_down {v m : Nat} (h : bl v ≤ 131072) (hm : m ≤ 131072) : shiftR v (-(m : Int)) = (D (v / 2 ^ m), decide (v % 2 ^ m ≠ 0), 0) := by
  by_cases hv : v = 0
  · unfold shiftR
    rw [if_pos hv, hv, Nat.zero_div, Nat.zero_mod, D_zero]; rfl
  rcases Nat.eq_zero_or_pos m with h0 | h0
  · subst h0
    have e := shiftR_up (v := v) (m := 0) (by omega)
    rw [Nat.pow_zero, Nat.mul_one] at e
    rw [Nat.pow_zero, Nat.div_one, Nat.mod_one]
    exact e
  · unfold shiftR
    have e : (-(-(m : Int))).toNat = m := by omega
    rw [if_neg hv, if_neg (by omega), if_pos (by omega), e]
end Go.Proofs.YtbcjdlljmhfhdaaDoor.Eng.K

/- Dyadic numbers: whole numbers times a power of two, in their one form; the reference's and the program's way to that form. -/
set_option linter.unusedVariables false
set_option linter.unusedSimpArgs false
namespace Go.Proofs.YtbcjdlljmhfhdaaDoor.Eng.K
open Go.RowKit

/-- A size with a sign. -/
def sv (s : Bool) (n : Nat) : Int := if s = true then -(n : Int) else n
theorem sv_abs (s : Bool) (n : Nat) : (sv s n).natAbs = n := by unfold sv; split <;> simp
theorem sv_eq_zero {s : Bool} {n : Nat} : sv s n = 0 ↔ n = 0 := by unfold sv; split <;> omega
theorem sv_neg {s : Bool} {n : Nat} (h : n ≠ 0) : decide (sv s n < 0) = s := by
  unfold sv
  cases s
  · exact decide_eq_false (by simp)
  · exact decide_eq_true (by simp; omega)
theorem sv_zero (s : Bool) : sv s 0 = 0 := by unfold sv; split <;> rfl
/-- z times 2^e, in the one form: sign, digits (an odd number), exponent. -/
def mk (z e : Int) : Bool × List Int × Int := if z = 0 then (false, [], 0) else (decide (z < 0), D (z.natAbs / 2 ^ lw z.natAbs), e + (lw z.natAbs : Nat))
theorem mk_zero (e : Int) : mk 0 e = (false, [], 0) := rfl
/-- In its one form? -/
structure Dy (s : Bool) (l : List Int) (e : Int) : Prop where
  nm : Nm l
  none : l = [] → s = false ∧ e = 0
  odd : l ≠ [] → V l % 2 = 1
theorem Dy_mk (z e : Int) : Dy (mk z e).1 (mk z e).2.1 (mk z e).2.2 := by
  unfold mk
  by_cases h : z = 0
  · rw [if_pos h]; exact ⟨Nm_nil, fun _ => ⟨rfl, rfl⟩, fun h => absurd rfl h⟩
  · rw [if_neg h]
    obtain ⟨m, hm⟩ := lw_is (n := z.natAbs) (by omega)
    have h1 : z.natAbs / 2 ^ lw z.natAbs = 2 * m + 1 := by
      have : z.natAbs / 2 ^ lw z.natAbs = 2 ^ lw z.natAbs * (2 * m + 1) / 2 ^ lw z.natAbs := by rw [← hm]
      rw [this, Nat.mul_div_cancel_left _ (pw_pos _)]
    have h2 : D (z.natAbs / 2 ^ lw z.natAbs) ≠ [] := by rw [h1, D_pos (by omega)]; simp
    exact ⟨Nm_D _, fun h => absurd h h2, fun _ => by show V (D _) % 2 = 1; rw [V_D, h1]; omega⟩
theorem mk_sv (s : Bool) {n : Nat} (h : n ≠ 0) (e : Int) : mk (sv s n) e = (s, D (n / 2 ^ lw n), e + (lw n : Nat)) := by
  unfold mk
  rw [if_neg (fun h2 => h (sv_eq_zero.1 h2)), sv_abs, sv_neg h]
theorem lw_lt {n : Nat} (h : n ≠ 0) : lw n < bl n := by
  have h1 := (lw_is h).le
  rcases Nat.lt_or_ge (lw n) (bl n) with h2 | h2
  · exact h2
  · have h3 := lt_bl n
    have h4 : 2 ^ bl n ≤ 2 ^ lw n := Nat.pow_le_pow_right (by omega) h2
    omega
theorem nil_len {l : List Int} : (l.length : Int) = 0 ↔ l = [] := by
  constructor
  · intro h; exact List.eq_nil_of_length_eq_zero (by omega)
  · intro h; rw [h]; rfl
theorem wexp {e : Int} {b : Nat} (h1 : -1000000000000000 ≤ e) (h2 : e ≤ 1000000000000000) (hb : b < 100000000000) : wrap64 (e + (b : Int)) = e + (b : Int) := by unfold wrap64; omega
/-- What Make answers: the one form, or that the exponent is too great. -/
def makeR (s : Bool) (n : Nat) (e : Int) : Bool × List Int × Int × Int :=
  if n = 0 then (false, [], 0, 0) else if e > 16777216 - (lw n : Nat) then (false, [], 0, 20) else if e < -16777216 - (lw n : Nat) then (false, [], 0, 20) else ((mk (sv s n) e).1, (mk (sv s n) e).2.1, (mk (sv s n) e).2.2, 0)
theorem dyad_Make_ev (s : Bool) {l : List Int} (hl : Nm l) (ll : l.length ≤ 4096) (e : Int) : Ev (fun k => dyad_Make.f k s l e) (makeR s (V l) e) := by
  unfold dyad_Make.f makeR
  refine ev_bind (nat_May_eq hl.dg (by omega)) ?_
  rw [may_iff.2 ⟨ll, hl⟩]
  (repeat (first | (with_reducible refine ev_pos ?_ ?_; focus (first | omega | assumption | (simp; done) | (simp; omega))) | (with_reducible refine ev_neg ?_ ?_; focus (first | omega | assumption | (simp; done) | (simp; omega)))))
  by_cases c : l = []
  · subst c
    (repeat (first | (with_reducible refine ev_pos ?_ ?_; focus (first | omega | assumption | (simp; done) | (simp; omega))) | (with_reducible refine ev_neg ?_ ?_; focus (first | omega | assumption | (simp; done) | (simp; omega)))))
    exact ev_eq (Ev.now _) (by rw [V_nil, if_pos rfl])
  · have h0 : V l ≠ 0 := fun h => c ((V_eq_zero hl).1 h)
    have hb := bl_list hl.dg
    have hw := lw_lt h0
    rw [if_neg h0]
    refine ev_neg (fun h => c (nil_len.1 h)) ?_
    refine Ev.bind (nat_Low_ev hl ll) ?_
    (repeat (first | (with_reducible refine ev_pos ?_ ?_; focus (first | omega | assumption | (simp; done) | (simp; omega))) | (with_reducible refine ev_neg ?_ ?_; focus (first | omega | assumption | (simp; done) | (simp; omega)))))
    have e1 : wrap64 (16777216 - ((lw (V l) : Nat) : Int)) = 16777216 - ((lw (V l) : Nat) : Int) := by unfold wrap64; omega
    have e2 : wrap64 (-16777216 - ((lw (V l) : Nat) : Int)) = -16777216 - ((lw (V l) : Nat) : Int) := by unfold wrap64; omega
    have e3 : wrap64 (-((lw (V l) : Nat) : Int)) = -((lw (V l) : Nat) : Int) := by unfold wrap64; omega
    rw [e1, e2, e3]
    clear e1 e2 e3
    by_cases h1 : e > 16777216 - ((lw (V l) : Nat) : Int)
    · rw [if_pos h1]; exact ev_pos h1 (Ev.now _)
    rw [if_neg h1]
    refine ev_neg h1 ?_
    by_cases h2 : e < -16777216 - ((lw (V l) : Nat) : Int)
    · rw [if_pos h2]; exact ev_pos h2 (Ev.now _)
    rw [if_neg h2]
    have hs := nat_Shift_ev hl ll (-((lw (V l) : Nat) : Int))
    rw [shiftR_down (by omega) (by omega)] at hs
    refine ev_neg h2 ?_
    refine Ev.bind hs ?_
    (repeat (first | (with_reducible refine ev_pos ?_ ?_; focus (first | omega | assumption | (simp; done) | (simp; omega))) | (with_reducible refine ev_neg ?_ ?_; focus (first | omega | assumption | (simp; done) | (simp; omega)))))
    refine ev_eq (Ev.now _) ?_
    rw [mk_sv s h0, wexp (by omega) (by omega) (by omega)]
end Go.Proofs.YtbcjdlljmhfhdaaDoor.Eng.K

/- Dyadic numbers, the reference: signs, tops, sums, differences, products, which is above which. -/
set_option linter.unusedVariables false
set_option linter.unusedSimpArgs false
namespace Go.Proofs.YtbcjdlljmhfhdaaDoor.Eng.K
open Go.RowKit

theorem len_pos {l : List Int} (c : l ≠ []) : (l.length : Int) > 0 := by
  have := List.length_pos_iff.2 c
  omega
theorem mk_Near {z e : Int} : (mk z e).2.1 = D (z.natAbs / 2 ^ lw z.natAbs) := by
  unfold mk
  by_cases h : z = 0
  · subst h; rw [if_pos rfl]; simp [D_zero]
  · rw [if_neg h]
end Go.Proofs.YtbcjdlljmhfhdaaDoor.Eng.K

/- Dyadic numbers, the reference: products, orders, floors, cuts, whole numbers. -/
set_option linter.unusedVariables false
set_option linter.unusedSimpArgs false
namespace Go.Proofs.YtbcjdlljmhfhdaaDoor.Eng.K
open Go.RowKit

theorem sv_sign {s : Bool} {n : Nat} (h : n ≠ 0) : (sv s n).sign = if s = true then -1 else 1 := by
  unfold sv
  split
  · exact Int.sign_eq_neg_one_of_neg (by omega)
  · exact Int.sign_eq_one_of_pos (by omega)
end Go.Proofs.YtbcjdlljmhfhdaaDoor.Eng.K

/- Dyadic numbers, the program: what may be, whole numbers, signs, tops. -/
set_option linter.unusedVariables false
set_option linter.unusedSimpArgs false
namespace Go.Proofs.YtbcjdlljmhfhdaaDoor.Eng.K
open Go.RowKit

theorem and_one32 (X : Nat) (hX : X < 4294967296) : Go.bits .and .u32 (X : Int) 1 = ((X % 2 : Nat) : Int) := by
  have h1 : (BitVec.ofInt 32 (X : Int)).toNat = X := by
    rw [BitVec.ofInt_natCast, BitVec.toNat_ofNat]; exact Nat.mod_eq_of_lt (by omega)
  show IntKind.u32.wrap ((BitVec.ofInt 32 (X : Int) &&& BitVec.ofInt 32 1).toNat : Int) = _
  have h2 : (BitVec.ofInt 32 (1 : Int)).toNat = 1 := by decide
  have h3 : ∀ n : Int, IntKind.u32.wrap n = n % 4294967296 := fun n => by simp [IntKind.wrap, IntKind.signed, IntKind.bits]
  rw [BitVec.toNat_and, h1, h2, h3, Nat.and_one_is_mod]
  omega
theorem low_digit {l : List Int} (h : Dg l) : Go.bits .and .u32 (rd l 0) 1 = ((V l % 2 : Nat) : Int) := by
  have h1 := h.getD 0
  have h2 := V_digit h 0
  rw [Nat.pow_zero, Nat.div_one] at h2
  have h3 : rd l 0 = l.getD 0 0 := rdn l 0
  rw [h3]
  obtain ⟨x, hx⟩ := Int.eq_ofNat_of_zero_le h1.1
  rw [hx] at h1 h2 ⊢
  rw [and_one32 x (by omega)]
  rw [Int.toNat_natCast] at h2
  omega
/-- A number that may be, in its one form. -/
structure My (s : Bool) (l : List Int) (e : Int) : Prop where
  dy : Dy s l e
  len : l.length ≤ 4096
  lo : -16777216 ≤ e
  hi : e ≤ 16777216
theorem dyad_May_true {s : Bool} {l : List Int} {e : Int} (h : My s l e) : dyad_May.f s l e = some true := by
  obtain ⟨hd, hl, h1, h2⟩ := h
  unfold dyad_May.f
  rw [nat_May_eq hd.nm.dg (by omega), Option.bind_some, may_iff.2 ⟨hl, hd.nm⟩, if_neg (by simp)]
  by_cases c : l = []
  · obtain ⟨h3, h4⟩ := hd.none c
    subst c; subst h3; subst h4
    rfl
  · have ho := hd.odd c
    rw [if_neg (fun h => c (nil_len.1 h)), if_pos (len_pos c), low_digit hd.nm.dg, if_pos (by omega)]
    unfold dyad_inside.f
    rw [if_pos h1, decide_eq_true h2]; rfl
theorem dyad_Sign_ev {s : Bool} {l : List Int} {e : Int} (h : My s l e) : Ev (fun k => dyad_Sign.f k s l e) (sv s (V l)).sign := by
  unfold dyad_Sign.f
  refine ev_bind (dyad_May_true h) ?_
  (repeat (first | (with_reducible refine ev_pos ?_ ?_; focus (first | omega | assumption | (simp; done) | (simp; omega))) | (with_reducible refine ev_neg ?_ ?_; focus (first | omega | assumption | (simp; done) | (simp; omega)))))
  refine ev_step ?_
  simp only [dyad_Sign.j0]
  by_cases c : l = []
  · subst c
    (repeat (first | (with_reducible refine ev_pos ?_ ?_; focus (first | omega | assumption | (simp; done) | (simp; omega))) | (with_reducible refine ev_neg ?_ ?_; focus (first | omega | assumption | (simp; done) | (simp; omega)))))
    exact ev_eq (Ev.now _) (by rw [V_nil, sv_zero]; rfl)
  · have h1 := h.dy.odd c
    have h0 : V l ≠ 0 := by omega
    refine ev_neg (by simpa using fun e => c e) ?_
    rw [sv_sign h0]
    by_cases hs : s = true
    · refine ev_pos hs ?_
      exact ev_eq (Ev.now _) (if_pos hs).symm
    · refine ev_neg hs ?_
      exact ev_eq (Ev.now _) (if_neg hs).symm
theorem makeR_ok {s : Bool} {n : Nat} {e : Int} (h1 : -16777216 ≤ e) (h2 : e + (bl n : Nat) ≤ 16777216) : makeR s n e = ((mk (sv s n) e).1, (mk (sv s n) e).2.1, (mk (sv s n) e).2.2, 0) := by
  unfold makeR
  by_cases h0 : n = 0
  · rw [if_pos h0, h0, sv_zero]; rfl
  · have := lw_lt h0
    rw [if_neg h0, if_neg (by omega), if_neg (by omega)]
theorem My_mk {z e : Int} (h1 : -16777216 ≤ e) (h2 : e + (bl z.natAbs : Nat) ≤ 16777216) (h3 : bl z.natAbs ≤ 131072) : My (mk z e).1 (mk z e).2.1 (mk z e).2.2 := by
  refine ⟨Dy_mk z e, ?_, ?_, ?_⟩
  · rw [mk_Near]
    refine len_bl ?_
    rw [bl_down]; omega
  · unfold mk
    by_cases h0 : z = 0
    · subst h0; rw [if_pos rfl]; decide
    · rw [if_neg h0]; show -16777216 ≤ e + ((lw z.natAbs : Nat) : Int); omega
  · unfold mk
    by_cases h0 : z = 0
    · subst h0; rw [if_pos rfl]; decide
    · have := lw_lt (n := z.natAbs) (by omega)
      rw [if_neg h0]; show e + ((lw z.natAbs : Nat) : Int) ≤ 16777216; omega
end Go.Proofs.YtbcjdlljmhfhdaaDoor.Eng.K

/- Dyadic numbers, the program: sums, differences, products of numbers that are not too long. -/
set_option linter.unusedVariables false
set_option linter.unusedSimpArgs false
namespace Go.Proofs.YtbcjdlljmhfhdaaDoor.Eng.K
open Go.RowKit

/-- A dyadic number with the answer's error (none). -/
def ok3 (d : Bool × List Int × Int) : Bool × List Int × Int × Int := (d.1, d.2.1, d.2.2, 0)
theorem makeR_ok3 {s : Bool} {n : Nat} {e : Int} (h1 : -16777216 ≤ e) (h2 : e + (bl n : Nat) ≤ 16777216) : makeR s n e = ok3 (mk (sv s n) e) := makeR_ok h1 h2
end Go.Proofs.YtbcjdlljmhfhdaaDoor.Eng.K

/- Words of both formats: their shapes, and their bits as numbers. -/
set_option linter.unusedVariables false
set_option linter.unusedSimpArgs false
namespace Go.Proofs.YtbcjdlljmhfhdaaDoor.Eng.K
open Go.RowKit

theorem bv64 (n : Nat) (h : n < 18446744073709551616) : (BitVec.ofInt 64 (n : Int)).toNat = n := by
  rw [BitVec.ofInt_natCast, BitVec.toNat_ofNat]; exact Nat.mod_eq_of_lt (by omega)
theorem and64 (a b : Nat) (ha : a < 18446744073709551616) (hb : b < 18446744073709551616) : Go.bits .and .u64 (a : Int) (b : Int) = ((a &&& b : Nat) : Int) := by
  show IntKind.u64.wrap ((BitVec.ofInt 64 (a : Int) &&& BitVec.ofInt 64 (b : Int)).toNat : Int) = _
  have hx : a &&& b < 2 ^ 64 := Nat.and_lt_two_pow _ (by omega)
  rw [BitVec.toNat_and, bv64 a ha, bv64 b hb, u64m]
  omega
theorem or64 (a b : Nat) (ha : a < 18446744073709551616) (hb : b < 18446744073709551616) : Go.bits .or .u64 (a : Int) (b : Int) = ((a ||| b : Nat) : Int) := by
  show IntKind.u64.wrap ((BitVec.ofInt 64 (a : Int) ||| BitVec.ofInt 64 (b : Int)).toNat : Int) = _
  have hx : a ||| b < 2 ^ 64 := Nat.or_lt_two_pow (by omega) (by omega)
  rw [BitVec.toNat_or, bv64 a ha, bv64 b hb, u64m]
  omega
/-- The low bits. -/
theorem and_low (a k : Nat) (ha : a < 18446744073709551616) (hk : k ≤ 63) : Go.bits .and .u64 (a : Int) ((2 ^ k - 1 : Nat) : Int) = ((a % 2 ^ k : Nat) : Int) := by
  have h1 : 2 ^ k ≤ 2 ^ 63 := Nat.pow_le_pow_right (by omega) hk
  rw [and64 a _ ha (by omega), Nat.and_two_pow_sub_one_eq_mod]
/-- Bits that don't meet. -/
theorem or_sum (a b k : Nat) (hb : b < 2 ^ k) (h : a * 2 ^ k + b < 18446744073709551616) : Go.bits .or .u64 ((a * 2 ^ k : Nat) : Int) (b : Int) = ((a * 2 ^ k + b : Nat) : Int) := by
  rw [or64 _ _ (by omega) (by omega)]
  congr 1
  rw [Nat.mul_comm]
  exact (Nat.two_pow_add_eq_or_of_lt hb a).symm
theorem or_comm64 (a b : Nat) (ha : a < 18446744073709551616) (hb : b < 18446744073709551616) : Go.bits .or .u64 (a : Int) (b : Int) = Go.bits .or .u64 (b : Int) (a : Int) := by
  rw [or64 a b ha hb, or64 b a hb ha, Nat.or_comm]
end Go.Proofs.YtbcjdlljmhfhdaaDoor.Eng.K

/- Words of both formats, the program: open, class, fields. -/
set_option linter.unusedVariables false
set_option linter.unusedSimpArgs false
namespace Go.Proofs.YtbcjdlljmhfhdaaDoor.Eng.K
open Go.RowKit

/-- A format; its fraction's bits, its greatest exponent field, its sign's place. -/
def isF (f : Int) : Prop := f = 1 ∨ f = 2
def fb (f : Int) : Nat := if f = 1 then 23 else 52
def mo (f : Int) : Nat := if f = 1 then 255 else 2047
def sk (f : Int) : Nat := if f = 1 then 31 else 63
def sg (f : Int) : Nat := if f = 1 then 2147483648 else 9223372036854775808
theorem shapeOf_eq {f : Int} (h : isF f) : word_shapeOf.f f = some ((fb f : Int), (mo f : Int), (sg f : Int), true) := by
  rcases h with rfl | rfl <;> rfl
theorem word_open_nil {f : Int} (h : isF f) : Ev (fun k => word_open.f k f []) ((fb f : Int), (mo f : Int), (sg f : Int), 0) := by
  unfold word_open.f
  refine ev_bind (shapeOf_eq h) ?_
  (repeat (first | (with_reducible refine ev_pos ?_ ?_; focus (first | omega | assumption | (simp; done) | (simp; omega))) | (with_reducible refine ev_neg ?_ ?_; focus (first | omega | assumption | (simp; done) | (simp; omega)))))
  refine ev_step ?_
  simp only [word_open.l0]
  (repeat (first | (with_reducible refine ev_pos ?_ ?_; focus (first | omega | assumption | (simp; done) | (simp; omega))) | (with_reducible refine ev_neg ?_ ?_; focus (first | omega | assumption | (simp; done) | (simp; omega)))))
  exact Ev.now _
theorem sg_pos {f : Int} (h : isF f) : 0 < sg f ∧ 2 * sg f ≤ 18446744073709551616 := by rcases h with rfl | rfl <;> decide
theorem sg_pow {f : Int} (h : isF f) : sg f = 2 ^ sk f := by rcases h with rfl | rfl <;> decide
theorem shl_mo {f : Int} (h : isF f) : shl .u64 ((mo f : Nat) : Int) ((fb f : Nat) : Int) = ((mo f * 2 ^ fb f : Nat) : Int) := by
  rcases h with rfl | rfl <;> decide
theorem inf_eq {f : Int} (h : isF f) : word_shape_inf.f (fb f : Int) (mo f : Int) (sg f : Int) = some ((mo f * 2 ^ fb f : Nat) : Int) := by
  unfold word_shape_inf.f
  have hm : mo f < 10000 := by rcases h with rfl | rfl <;> decide
  rw [if_pos (by omega), u64 (by omega) (by omega), shl_mo h]
end Go.Proofs.YtbcjdlljmhfhdaaDoor.Eng.K

/- Words of both formats, the program: fields, values. -/
set_option linter.unusedVariables false
set_option linter.unusedSimpArgs false
namespace Go.Proofs.YtbcjdlljmhfhdaaDoor.Eng.K
open Go.RowKit

theorem fb_le {f : Int} (h : isF f) : fb f ≤ 52 := by rcases h with rfl | rfl <;> decide
theorem mo_le {f : Int} (h : isF f) : mo f ≤ 2047 := by rcases h with rfl | rfl <;> decide
/-- The least exponent. -/
def lo (f : Int) : Int := if f = 1 then -149 else -1074
theorem low_eq {f : Int} (h : isF f) : word_shape_low.f (fb f : Int) (mo f : Int) (sg f : Int) = some (lo f) := by
  unfold word_shape_low.f
  have e : wrap64 (Int.tdiv ((mo f : Nat) : Int) 2) = ((mo f / 2 : Nat) : Int) := by
    have := mo_le h
    exact w64n (by show (0 : Int) ≤ ((mo f / 2 : Nat) : Int); omega) (by show ((mo f / 2 : Nat) : Int) < _; omega)
  have hm := mo_le h
  have hb := fb_le h
  rw [e]
  have e2 : wrap64 (1 - ((mo f / 2 : Nat) : Int)) = 1 - ((mo f / 2 : Nat) : Int) := by unfold wrap64; omega
  rw [e2]
  have e3 : wrap64 (1 - ((mo f / 2 : Nat) : Int) - ((fb f : Nat) : Int)) = 1 - ((mo f / 2 : Nat) : Int) - ((fb f : Nat) : Int) := by unfold wrap64; omega
  rw [e3]
  rcases h with rfl | rfl <;> rfl
end Go.Proofs.YtbcjdlljmhfhdaaDoor.Eng.K

/- The program's words of numbers, and its named words. -/
set_option linter.unusedVariables false
set_option linter.unusedSimpArgs false
namespace Go.Proofs.YtbcjdlljmhfhdaaDoor.Eng.K
open Go.RowKit

/-- Bits of a finite number; finite numbers are below two to that. -/
def pr (f : Int) : Nat := if f = 1 then 24 else 53
def wd (f : Int) : Int := if f = 1 then 128 else 1024
def sgn (f : Int) (s : Bool) : Nat := if s = true then sg f else 0
/-- Where a word's unit lies; the word of a size, without its sign. -/
def unit (f : Int) (n : Nat) (e : Int) : Int := max (e + (bl n : Nat) - (pr f : Nat)) (lo f)
def enc (f : Int) (n : Nat) (e : Int) : Nat := (unit f n e - lo f).toNat * 2 ^ fb f + n * 2 ^ (e - unit f n e).toNat
theorem pr_eq {f : Int} (h : isF f) : pr f = fb f + 1 := by rcases h with rfl | rfl <;> rfl
theorem wd_eq {f : Int} (h : isF f) : wd f = ((mo f / 2 : Nat) : Int) + 1 := by rcases h with rfl | rfl <;> rfl
theorem lo_b {f : Int} (h : isF f) : -1074 ≤ lo f ∧ lo f ≤ -149 := by rcases h with rfl | rfl <;> decide
theorem wd_b {f : Int} (h : isF f) : 128 ≤ wd f ∧ wd f ≤ 1024 := by rcases h with rfl | rfl <;> decide
theorem fits_room {f : Int} (h : isF f) : wd f - (pr f : Nat) - lo f = ((mo f - 2 : Nat) : Int) := by rcases h with rfl | rfl <;> rfl
theorem mo_ge {f : Int} (h : isF f) : 255 ≤ mo f := by rcases h with rfl | rfl <;> decide
theorem unit_ge (f : Int) (n : Nat) (e : Int) : lo f ≤ unit f n e := by unfold unit; omega
theorem part_lt {f : Int} {n : Nat} {e : Int} (hn : bl n ≤ pr f) (he : lo f ≤ e) : n * 2 ^ (e - unit f n e).toNat < 2 ^ pr f := by
  have h1 := lt_bl n
  have h2 : n * 2 ^ (e - unit f n e).toNat < 2 ^ bl n * 2 ^ (e - unit f n e).toNat := Nat.mul_lt_mul_of_pos_right h1 (pw_pos _)
  rw [← Nat.pow_add] at h2
  exact Nat.lt_of_lt_of_le h2 (Nat.pow_le_pow_right (by omega) (by unfold unit; omega))
theorem unit_le {f : Int} {n : Nat} {e : Int} (hn : bl n ≤ pr f) (he : lo f ≤ e) : unit f n e ≤ e := by unfold unit; omega
theorem enc_lt {f : Int} (h : isF f) {n : Nat} {e : Int} (hn : bl n ≤ pr f) (he : lo f ≤ e) (hw : e + (bl n : Nat) ≤ wd f) : enc f n e < mo f * 2 ^ fb f ∧ (unit f n e - lo f).toNat ≤ mo f - 2 := by
  have h1 := part_lt hn he
  have h2 := fits_room h
  have h3 := mo_ge h
  have h4 : (unit f n e - lo f).toNat ≤ mo f - 2 := by unfold unit; omega
  refine ⟨?_, h4⟩
  unfold enc
  rw [pr_eq h, Nat.pow_succ] at h1
  have h5 : (unit f n e - lo f).toNat * 2 ^ fb f ≤ (mo f - 2) * 2 ^ fb f := Nat.mul_le_mul_right _ h4
  have h6 : (mo f - 2) * 2 ^ fb f + 2 ^ fb f * 2 = mo f * 2 ^ fb f := by
    rw [Nat.mul_comm (2 ^ fb f) 2, ← Nat.add_mul]; congr 1; omega
  omega
theorem inf_lt {f : Int} (h : isF f) : mo f * 2 ^ fb f + 2 ^ fb f = sg f := by rcases h with rfl | rfl <;> decide
theorem shl_u64 {X s : Nat} (h : X * 2 ^ s < 18446744073709551616) (hs : s ≤ 64) : shl .u64 (X : Int) (s : Int) = ((X * 2 ^ s : Nat) : Int) := by
  unfold shl
  have e : min (s : Int).toNat IntKind.u64.bits = s := by
    have : IntKind.u64.bits = 64 := rfl
    omega
  rw [e, pow_cast, ← Int.natCast_mul]
  exact u64 (by omega) (by omega)
theorem or_sign {f : Int} (h : isF f) {x : Nat} (hx : x < sg f) : Go.bits .or .u64 (x : Int) (sg f : Int) = ((x + sg f : Nat) : Int) := by
  have hp := sg_pos h
  rw [or_comm64 _ _ (by omega) (by omega)]
  have h1 := or_sum 1 x (sk f) (by rw [← sg_pow h]; exact hx) (by rw [← sg_pow h]; omega)
  rw [Nat.one_mul, ← sg_pow h] at h1
  rw [h1, Nat.add_comm]
theorem or_zero64 {x : Nat} (h : x < 18446744073709551616) : Go.bits .or .u64 0 (x : Int) = (x : Int) := by
  have := or64 0 x (by omega) h
  rw [Nat.zero_or] at this
  exact this
theorem join_eq {f : Int} (h : isF f) {x : Nat} (hx : x < sg f) (s : Bool) : word_shape_join.f (fb f : Int) (mo f : Int) (sg f : Int) s 0 (x : Int) = some ((x + sgn f s : Nat) : Int) := by
  have hp := sg_pos h
  have e0 : shl .u64 (IntKind.u64.wrap 0) ((fb f : Nat) : Int) = 0 := by rcases h with rfl | rfl <;> decide
  unfold word_shape_join.f sgn
  rw [if_pos (by omega), e0, or_zero64 (by omega)]
  cases s
  · rfl
  · rw [if_pos rfl, if_pos rfl, or_sign h hx]
theorem wsubx {a b : Int} (h1 : -100000000000 ≤ a) (h2 : a ≤ 100000000000) (h3 : -100000000000 ≤ b) (h4 : b ≤ 100000000000) : wrap64 (a - b) = a - b := by unfold wrap64; omega
theorem waddx {a b : Int} (h1 : -100000000000 ≤ a) (h2 : a ≤ 100000000000) (h3 : -100000000000 ≤ b) (h4 : b ≤ 100000000000) : wrap64 (a + b) = a + b := by unfold wrap64; omega
theorem numB_small {l : List Int} (h : Nm l) (hb : V l < 18446744073709551616) : numB l = true := by
  have h1 : l.length ≤ 2 := by
    have : (D (V l)).length ≤ 2 := D_len_lt (by omega)
    rwa [h] at this
  unfold numB
  rw [may_iff.2 ⟨by omega, h⟩, decide_eq_true h1]
  rfl
theorem two_fb {f : Int} (h : isF f) : 2 ^ pr f ≤ 9007199254740992 := by rcases h with rfl | rfl <;> decide
theorem unit_wrap {f : Int} (h : isF f) {n : Nat} {e : Int} (he : lo f ≤ e) (hw : e + (bl n : Nat) ≤ wd f) (hn : bl n ≤ 100) : mx (wrap64 (wrap64 (e + ((bl n : Nat) : Int) - ((fb f : Nat) : Int)) - 1)) (lo f) = unit f n e := by
  have hl := lo_b h
  have hwb := wd_b h
  have hpr := pr_eq h
  have hfb := fb_le h
  have e1 : wrap64 (e + ((bl n : Nat) : Int) - ((fb f : Nat) : Int)) = e + ((bl n : Nat) : Int) - ((fb f : Nat) : Int) := by unfold wrap64; omega
  have e2 : wrap64 (e + ((bl n : Nat) : Int) - ((fb f : Nat) : Int) - 1) = e + ((bl n : Nat) : Int) - ((fb f : Nat) : Int) - 1 := by unfold wrap64; omega
  rw [e1, e2, mx_eq]
  unfold unit
  omega
theorem part_sm {n k : Nat} (h : n ≠ 0) (hb : n * 2 ^ k < 18446744073709551616) : k ≤ 64 := by
  rcases Nat.lt_or_ge 64 k with c | c
  · have h1 : 2 ^ 64 ≤ 2 ^ k := Nat.pow_le_pow_right (by omega) (by omega)
    have h2 : 2 ^ k ≤ n * 2 ^ k := Nat.le_mul_of_pos_left _ (by omega)
    have h3 : (2 : Nat) ^ 64 = 18446744073709551616 := by decide
    omega
  · exact c
theorem word_Of_ev {f : Int} (h : isF f) {s : Bool} {l : List Int} {e : Int} (hd : My s l e) (h0 : l ≠ []) (hn : bl (V l) ≤ pr f) (he : lo f ≤ e) (hw : e + (bl (V l) : Nat) ≤ wd f) :
    Ev (fun k => word_Of.f k f s l e) (((enc f (V l) e + sgn f s : Nat) : Int), 0) := by
  have hV : V l ≠ 0 := fun c => h0 ((V_eq_zero hd.dy.nm).1 c)
  have hl := lo_b h
  have hwb := wd_b h
  have hpr := pr_eq h
  have hfb := fb_le h
  have h2 := two_fb h
  have hbig : V l < 2 ^ pr f := Nat.lt_of_lt_of_le (lt_bl _) (Nat.pow_le_pow_right (by omega) hn)
  have hnum := nat_Num_ev hd.dy.nm.dg (by have := hd.len; omega)
  rw [numB_small hd.dy.nm (by omega), if_pos rfl] at hnum
  obtain ⟨e1, e2⟩ := enc_lt h hn he hw
  have hil := inf_lt h
  have hsp := sg_pos h
  have hplt := part_lt hn he
  have hu := unit_le hn he
  have hul := unit_ge f (V l) e
  have hpf := pw_pos (fb f)
  have hub : unit f (V l) e ≤ 1100 := by omega
  have hA : (unit f (V l) e - lo f).toNat * 2 ^ fb f < 18446744073709551616 := by unfold enc at e1; omega
  have hB : V l * 2 ^ (e - unit f (V l) e).toNat < 18446744073709551616 := by omega
  have hsm : (e - unit f (V l) e).toNat ≤ 64 := by
    have := part_sm (n := V l) (k := (e - unit f (V l) e).toNat) (by omega) hB
    exact this
  have hE : enc f (V l) e < 18446744073709551616 := by omega
  have t7 : IntKind.u64.wrap (((unit f (V l) e - lo f).toNat * 2 ^ fb f + V l * 2 ^ (e - unit f (V l) e).toNat : Nat) : Int) = ((enc f (V l) e : Nat) : Int) := u64 (by omega) (by unfold enc at hE; omega)
  have t8 := u64 (n := (((unit f (V l) e - lo f).toNat : Nat) : Int)) (by omega) (by omega)
  have t9 := shl_u64 hA (by omega)
  have t10 := shl_u64 hB hsm
  have hj := join_eq h (x := enc f (V l) e) (by omega) s
  have hVi : ¬ ((V l : Nat) : Int) = 0 := by omega
  have c1 : ¬ ((bl (V l) : Nat) : Int) > ((fb f : Nat) : Int) + 1 := by omega
  have c2 : ¬ e < lo f := by omega
  have c3 : ¬ e + ((bl (V l) : Nat) : Int) > wd f := by omega
  have c4 : (0 : Int) ≤ (((e - unit f (V l) e).toNat : Nat) : Int) := by omega
  have c5 : (0 : Int) ≤ ((fb f : Nat) : Int) := by omega
  have hm := mo_le h
  have hL := len64_ev (x := ((V l : Nat) : Int)) ⟨by omega, by omega⟩
  rw [Int.toNat_natCast] at hL
  have t1 : wrap64 (e + ((bl (V l) : Nat) : Int)) = e + ((bl (V l) : Nat) : Int) := waddx (by omega) (by omega) (by omega) (by omega)
  have t2 : wrap64 (((fb f : Nat) : Int) + 1) = ((fb f : Nat) : Int) + 1 := by clear t1; exact waddx (by omega) (by omega) (by omega) (by omega)
  have t3 : wrap64 (wrap64 (Int.tdiv ((mo f : Nat) : Int) 2) + 1) = wd f := by
    clear t1 t2
    have e3 : wrap64 (Int.tdiv ((mo f : Nat) : Int) 2) = ((mo f / 2 : Nat) : Int) := w64n (by show (0 : Int) ≤ ((mo f / 2 : Nat) : Int); omega) (by show ((mo f / 2 : Nat) : Int) < _; omega)
    rw [e3, waddx (by clear e3; omega) (by clear e3; omega) (by clear e3; omega) (by clear e3; omega), wd_eq h]
  have t4 := unit_wrap h he hw (by clear t1 t2 t3; omega : bl (V l) ≤ 100)
  have t5 : wrap64 (e - unit f (V l) e) = (((e - unit f (V l) e).toNat : Nat) : Int) := by clear t1 t2 t3 t4; rw [wsubx (by omega) (by omega) (by omega) (by omega)]; omega
  have t6 : wrap64 (unit f (V l) e - lo f) = (((unit f (V l) e - lo f).toNat : Nat) : Int) := by clear t1 t2 t3 t4 t5; rw [wsubx (by omega) (by omega) (by omega) (by omega)]; omega
  have hN := dyad_May_true hd
  have hlow := low_eq h
  have hop := word_open_nil h
  clear e1 e2 hA hB hE hplt hbig h2 hil hsp hm hub hu hul he hw hn hpf hsm
  unfold word_Of.f
  refine Ev.bind (hop) ?_; try dsimp only
  refine ev_neg (fun h => h rfl) ?_
  refine ev_bind (hN) ?_; try dsimp only
  refine ev_neg (by simp) ?_
  refine Ev.bind (hnum) ?_; try dsimp only
  refine Ev.bind (hL) ?_; try dsimp only
  rw [t2]
  refine ev_neg (by simp) (ev_neg c1 (ev_pos hVi ?_))
  refine ev_bind (hlow) ?_; try dsimp only
  refine ev_neg c2 ?_
  rw [t3, t1]
  refine ev_neg c3 (ev_neg hVi ?_)
  refine ev_bind (hlow) ?_; try dsimp only
  rw [t4, t5]
  refine ev_pos c4 ?_
  refine ev_bind (hlow) ?_; try dsimp only
  refine ev_pos c5 ?_
  rw [t6, t8, t9, t10, ← Int.natCast_add, t7]
  refine ev_bind (hj) ?_; try dsimp only
  exact Ev.now _
/-! ### named words -/
theorem named_end {f : Int} (h : isF f) (s : Bool) {x : Nat} (hx : x < sg f) : Ev (fun _ => if s = true then (some (Go.bits .or .u64 (x : Int) (sg f : Int), (0 : Int))) else (some ((x : Int), 0))) (((x + sgn f s : Nat) : Int), 0) := by
  unfold sgn
  cases s
  · (repeat (first | (with_reducible refine ev_pos ?_ ?_; focus (first | omega | assumption | (simp; done) | (simp; omega))) | (with_reducible refine ev_neg ?_ ?_; focus (first | omega | assumption | (simp; done) | (simp; omega)))))
    exact Ev.now _
  · (repeat (first | (with_reducible refine ev_pos ?_ ?_; focus (first | omega | assumption | (simp; done) | (simp; omega))) | (with_reducible refine ev_neg ?_ ?_; focus (first | omega | assumption | (simp; done) | (simp; omega)))))
    rw [or_sign h hx, if_pos rfl]
    exact Ev.now _
theorem word_Zero_ev {f : Int} (h : isF f) (s : Bool) : Ev (fun k => word_Zero.f k f s) (((sgn f s : Nat) : Int), 0) := by
  have hp := sg_pos h
  have hn := named_end h s (x := 0) hp.1
  rw [Nat.zero_add] at hn
  unfold word_Zero.f word_named_word_Zero_1.f
  refine Ev.bind (a := (((sgn f s : Nat) : Int), 0)) ?_ (Ev.now _)
  refine Ev.bind (word_open_nil h) ?_; try dsimp only
  (repeat (first | (with_reducible refine ev_pos ?_ ?_; focus (first | omega | assumption | (simp; done) | (simp; omega))) | (with_reducible refine ev_neg ?_ ?_; focus (first | omega | assumption | (simp; done) | (simp; omega)))))
  exact ev_bind rfl hn
theorem word_Inf_ev {f : Int} (h : isF f) (s : Bool) : Ev (fun k => word_Inf.f k f s) (((mo f * 2 ^ fb f + sgn f s : Nat) : Int), 0) := by
  have hil := inf_lt h
  have hp := pw_pos (fb f)
  have hn := named_end h s (x := mo f * 2 ^ fb f) (by omega)
  unfold word_Inf.f word_named_word_shape_inf.f
  refine Ev.bind (a := (((mo f * 2 ^ fb f + sgn f s : Nat) : Int), 0)) ?_ (Ev.now _)
  refine Ev.bind (word_open_nil h) ?_; try dsimp only
  (repeat (first | (with_reducible refine ev_pos ?_ ?_; focus (first | omega | assumption | (simp; done) | (simp; omega))) | (with_reducible refine ev_neg ?_ ?_; focus (first | omega | assumption | (simp; done) | (simp; omega)))))
  exact ev_bind (inf_eq h) hn
theorem word_Greatest_ev {f : Int} (h : isF f) (s : Bool) : Ev (fun k => word_Greatest.f k f s) (((mo f * 2 ^ fb f - 1 + sgn f s : Nat) : Int), 0) := by
  have hil := inf_lt h
  have hp := pw_pos (fb f)
  have hsp := sg_pos h
  have hm := mo_ge h
  have hq : 1 ≤ mo f * 2 ^ fb f := Nat.mul_pos (by omega) hp
  have hl : word_Greatest_1.f ((fb f : Nat) : Int) ((mo f : Nat) : Int) ((sg f : Nat) : Int) = some ((mo f * 2 ^ fb f - 1 : Nat) : Int) := by
    unfold word_Greatest_1.f
    rw [inf_eq h, Option.bind_some, u64m]
    congr 1
    omega
  have hn := named_end h s (x := mo f * 2 ^ fb f - 1) (by omega)
  unfold word_Greatest.f word_named_word_Greatest_1.f
  refine Ev.bind (a := (((mo f * 2 ^ fb f - 1 + sgn f s : Nat) : Int), 0)) ?_ (Ev.now _)
  refine Ev.bind (word_open_nil h) ?_; try dsimp only
  (repeat (first | (with_reducible refine ev_pos ?_ ?_; focus (first | omega | assumption | (simp; done) | (simp; omega))) | (with_reducible refine ev_neg ?_ ?_; focus (first | omega | assumption | (simp; done) | (simp; omega)))))
  exact ev_bind hl hn
/-- The canonical NaN. -/
def nanW (f : Int) : Nat := mo f * 2 ^ fb f + 2 ^ (fb f - 1)
theorem word_None_ev {f : Int} (h : isF f) : Ev (fun k => word_None.f k f) (((nanW f : Nat) : Int), 0) := by
  have hl : word_shape_none.f ((fb f : Nat) : Int) ((mo f : Nat) : Int) ((sg f : Nat) : Int) = some ((nanW f : Nat) : Int) := by
    rcases h with rfl | rfl <;> decide +kernel
  unfold word_None.f word_named_word_shape_none.f
  refine Ev.bind (a := (((nanW f : Nat) : Int), 0)) ?_ (Ev.now _)
  refine Ev.bind (word_open_nil h) ?_; try dsimp only
  (repeat (first | (with_reducible refine ev_pos ?_ ?_; focus (first | omega | assumption | (simp; done) | (simp; omega))) | (with_reducible refine ev_neg ?_ ?_; focus (first | omega | assumption | (simp; done) | (simp; omega)))))
  refine ev_bind (hl) ?_; try dsimp only
  (repeat (first | (with_reducible refine ev_pos ?_ ?_; focus (first | omega | assumption | (simp; done) | (simp; omega))) | (with_reducible refine ev_neg ?_ ?_; focus (first | omega | assumption | (simp; done) | (simp; omega)))))
  exact Ev.now _
end Go.Proofs.YtbcjdlljmhfhdaaDoor.Eng.K

/- Words of both formats, the reference: fields, class, named words, values. -/
set_option linter.unusedVariables false
set_option linter.unusedSimpArgs false
namespace Go.Proofs.YtbcjdlljmhfhdaaDoor.Eng.K
open Go.RowKit

instance (f : Int) : Decidable (isF f) := inferInstanceAs (Decidable (f = 1 ∨ f = 2))
theorem rIs_eq (f : Int) : cutplaneref03_Is.f f = some (decide (isF f)) := by
  unfold cutplaneref03_Is.f isF
  by_cases h : f = 1
  · rw [if_pos h]; simp [h]
  · rw [if_neg h]; simp [h]
def isM (m : Int) : Prop := 1 ≤ m ∧ m ≤ 5
instance (m : Int) : Decidable (isM m) := inferInstanceAs (Decidable (1 ≤ m ∧ m ≤ 5))
theorem rIsM_eq (m : Int) : cutplaneref04_Is.f m = some (decide (isM m)) := by
  unfold cutplaneref04_Is.f isM
  by_cases h : m ≥ 1
  · rw [if_pos h]; simp [show 1 ≤ m from h]
  · rw [if_neg h]; simp [show ¬ 1 ≤ m from h]
end Go.Proofs.YtbcjdlljmhfhdaaDoor.Eng.K

/- Dyadic numbers told as whole numbers times powers of two: what the operations make of such, the reference. -/
set_option linter.unusedVariables false
set_option linter.unusedSimpArgs false
namespace Go.Proofs.YtbcjdlljmhfhdaaDoor.Eng.K
open Go.RowKit

def mz (z e : Int) : Int := sv (mk z e).1 (V (mk z e).2.1)
def me (z e : Int) : Int := (mk z e).2.2
theorem sv_self (z : Int) : sv (decide (z < 0)) z.natAbs = z := by
  unfold sv
  by_cases h : z < 0
  · rw [decide_eq_true h, if_pos rfl]; omega
  · rw [decide_eq_false h, if_neg (by simp)]; omega
theorem mk_val {z : Int} (h : z ≠ 0) (e : Int) : ∃ j : Nat, z = mz z e * 2 ^ j ∧ me z e = e + (j : Int) ∧ mz z e ≠ 0 ∧ bl (mz z e).natAbs + j = bl z.natAbs := by
  have hn : z.natAbs ≠ 0 := by omega
  have hw := lw_lt hn
  obtain ⟨q, hq⟩ := lw_is hn
  have hd : z.natAbs / 2 ^ lw z.natAbs = 2 * q + 1 := by
    have : z.natAbs / 2 ^ lw z.natAbs = 2 ^ lw z.natAbs * (2 * q + 1) / 2 ^ lw z.natAbs := by rw [← hq]
    rw [this, Nat.mul_div_cancel_left _ (pw_pos _)]
  have hm : mz z e = sv (decide (z < 0)) (z.natAbs / 2 ^ lw z.natAbs) := by
    unfold mz mk; rw [if_neg h]; show sv _ (V (D _)) = _; rw [V_D]
  have he : me z e = e + (lw z.natAbs : Nat) := by unfold me mk; rw [if_neg h]
  refine ⟨lw z.natAbs, ?_, he, ?_, ?_⟩
  · rw [hm, hd]
    have h1 : sv (decide (z < 0)) (2 * q + 1) * 2 ^ lw z.natAbs = sv (decide (z < 0)) ((2 * q + 1) * 2 ^ lw z.natAbs) := by
      unfold sv
      split
      · rw [Int.neg_mul, Int.natCast_mul, Int.natCast_pow]; rfl
      · rw [Int.natCast_mul, Int.natCast_pow]; rfl
    rw [h1, Nat.mul_comm, ← hq, sv_self]
  · rw [hm, hd]; intro h2; have := sv_eq_zero.1 h2; omega
  · rw [hm, sv_abs, bl_down]; omega
theorem mz_ne {z : Int} (h : z ≠ 0) (e : Int) : mz z e ≠ 0 := by obtain ⟨j, _, _, h3, _⟩ := mk_val h e; exact h3
end Go.Proofs.YtbcjdlljmhfhdaaDoor.Eng.K

/- Rounding: a size taken to a whole number of units; the reference's way to it. -/
set_option linter.unusedVariables false
set_option linter.unusedSimpArgs false
namespace Go.Proofs.YtbcjdlljmhfhdaaDoor.Eng.K
open Go.RowKit

/-- Does a size go up? -/
def upB (m : Int) (s odd half more : Bool) : Bool :=
  if m = 1 then half && (more || odd) else if m = 2 then half else if m = 4 then !s && (half || more) else if m = 5 then s && (half || more) else false
/-- n in units of 2^k, rounded. -/
def rnd (m : Int) (s : Bool) (n k : Nat) : Nat :=
  n / 2 ^ k + (if upB m s (decide (n / 2 ^ k % 2 = 1)) (decide (2 ^ k ≤ 2 * (n % 2 ^ k))) (decide (2 * (n % 2 ^ k) % 2 ^ k ≠ 0)) = true then 1 else 0)
theorem rnd_exact {m : Int} {s : Bool} {n k : Nat} (h : n % 2 ^ k = 0) : rnd m s n k = n / 2 ^ k := by
  have hp := pw_pos k
  unfold rnd
  rw [h]
  have e1 : decide (2 ^ k ≤ 2 * 0) = false := decide_eq_false (by omega)
  have e2 : decide (2 * 0 % 2 ^ k ≠ 0) = false := decide_eq_false (by simp)
  rw [e1, e2]
  unfold upB
  simp
theorem rnd_zero (m : Int) (s : Bool) (n : Nat) : rnd m s n 0 = n := by
  rw [rnd_exact (by rw [Nat.pow_zero, Nat.mod_one]), Nat.pow_zero, Nat.div_one]
theorem rnd_up (m : Int) (s : Bool) (n k j : Nat) : rnd m s (n * 2 ^ j) (k + j) = rnd m s n k := by
  have hj := pw_pos j
  have hk := pw_pos k
  have e1 : n * 2 ^ j / 2 ^ (k + j) = n / 2 ^ k := by rw [Nat.pow_add, Nat.mul_div_mul_right _ _ hj]
  have e2 : n * 2 ^ j % 2 ^ (k + j) = n % 2 ^ k * 2 ^ j := by rw [Nat.pow_add, Nat.mul_mod_mul_right]
  unfold rnd
  rw [e1, e2]
  have e3 : decide (2 ^ (k + j) ≤ 2 * (n % 2 ^ k * 2 ^ j)) = decide (2 ^ k ≤ 2 * (n % 2 ^ k)) := decide_eq_decide.2 (by
    rw [Nat.pow_add, ← Nat.mul_assoc]
    exact ⟨fun h => Nat.le_of_mul_le_mul_right h hj, fun h => Nat.mul_le_mul_right _ h⟩)
  have e4 : decide (2 * (n % 2 ^ k * 2 ^ j) % 2 ^ (k + j) ≠ 0) = decide (2 * (n % 2 ^ k) % 2 ^ k ≠ 0) := decide_eq_decide.2 (by
    rw [Nat.pow_add, ← Nat.mul_assoc, Nat.mul_mod_mul_right]
    constructor
    · intro h h2; exact h (by rw [h2, Nat.zero_mul])
    · intro h h2
      rcases Nat.mul_eq_zero.1 h2 with h3 | h3
      · exact h h3
      · omega)
  rw [e3, e4]
/-- n 2^e in units of 2^E, rounded. -/
def R (m : Int) (s : Bool) (n : Nat) (e E : Int) : Nat := rnd m s (n * 2 ^ (e - E).toNat) (E - e).toNat
theorem R_up (m : Int) (s : Bool) (n : Nat) (e E : Int) (j : Nat) : R m s (n * 2 ^ j) e E = R m s n (e + j) E := by
  unfold R
  by_cases h : E ≤ e
  · have e1 : (E - e).toNat = 0 := by omega
    have e2 : (E - (e + (j : Int))).toNat = 0 := by omega
    rw [e1, e2, rnd_zero, rnd_zero, Nat.mul_assoc, ← Nat.pow_add]
    congr 2; omega
  · by_cases h2 : E ≤ e + (j : Int)
    · have e1 : (e - E).toNat = 0 := by omega
      have e2 : (E - (e + (j : Int))).toNat = 0 := by omega
      rw [e1, e2, rnd_zero, Nat.pow_zero, Nat.mul_one]
      have e3 : n * 2 ^ j = n * 2 ^ (e + (j : Int) - E).toNat * 2 ^ (E - e).toNat := by
        rw [Nat.mul_assoc, ← Nat.pow_add]; congr 2; omega
      rw [e3]
      have := rnd_up m s (n * 2 ^ (e + (j : Int) - E).toNat) 0 (E - e).toNat
      rw [Nat.zero_add, rnd_zero] at this
      exact this
    · have e1 : (e - E).toNat = 0 := by omega
      have e2 : (e + (j : Int) - E).toNat = 0 := by omega
      have e3 : (E - e).toNat = (E - (e + (j : Int))).toNat + j := by omega
      rw [e1, e2, e3, Nat.pow_zero, Nat.mul_one, Nat.mul_one, rnd_up]
/-- Is nothing lost? -/
def exR (n : Nat) (e E : Int) : Bool := decide (n % 2 ^ (E - e).toNat = 0)
theorem exR_up (n : Nat) (e E : Int) (j : Nat) : exR (n * 2 ^ j) e E = exR n (e + j) E := by
  unfold exR
  apply decide_eq_decide.2
  by_cases h2 : E ≤ e + (j : Int)
  · have e2 : (E - (e + (j : Int))).toNat = 0 := by omega
    rw [e2, Nat.pow_zero, Nat.mod_one]
    have e3 : n * 2 ^ j = n * 2 ^ (j - (E - e).toNat) * 2 ^ (E - e).toNat := by
      rw [Nat.mul_assoc, ← Nat.pow_add]; congr 2; omega
    rw [e3, Nat.mul_mod_left]
  · have e3 : (E - e).toNat = (E - (e + (j : Int))).toNat + j := by omega
    rw [e3, Nat.pow_add, Nat.mul_mod_mul_right]
    constructor
    · intro h
      rcases Nat.mul_eq_zero.1 h with h3 | h3
      · exact h3
      · have := pw_pos j; omega
    · intro h; rw [h, Nat.zero_mul]
/-! ### the reference -/
end Go.Proofs.YtbcjdlljmhfhdaaDoor.Eng.K

/- Rounding, the reference: the word and the flags. -/
set_option linter.unusedVariables false
set_option linter.unusedSimpArgs false
namespace Go.Proofs.YtbcjdlljmhfhdaaDoor.Eng.K
open Go.RowKit

/-- Towards nought, as the sign stands? -/
def inw (m : Int) (s : Bool) : Bool := decide (m = 3) || (decide (m = 4) && s) || (decide (m = 5) && !s)
def overW (f m : Int) (s : Bool) : Nat := (if inw m s = true then mo f * 2 ^ fb f - 1 else mo f * 2 ^ fb f) + sgn f s
end Go.Proofs.YtbcjdlljmhfhdaaDoor.Eng.K

/- Rounding: what it comes to, and the reference's way to it. -/
set_option linter.unusedVariables false
set_option linter.unusedSimpArgs false
namespace Go.Proofs.YtbcjdlljmhfhdaaDoor.Eng.K
open Go.RowKit

/-- The word of a size, of its one form. -/
def encN (f : Int) (n : Nat) (e : Int) : Nat := enc f (n / 2 ^ lw n) (e + (lw n : Nat))
/-- The word to which a size is rounded, and the flags. -/
def unitR (f : Int) (n : Nat) (e : Int) : Int := max (e + (bl n : Nat) - (pr f : Nat)) (lo f)
def roundS (f m : Int) (s : Bool) (n : Nat) (e : Int) : Int × Int :=
  let q := R m s n e (unitR f n e)
  if (bl q : Int) + unitR f n e > wd f then ((overW f m s : Int), 20)
  else ((((if q = 0 then 0 else encN f q (unitR f n e)) + sgn f s : Nat) : Int),
    if exR n e (unitR f n e) = true then 0
    else if (bl (R m s n e (e + (bl n : Nat) - (pr f : Nat))) : Int) + (e + (bl n : Nat) - (pr f : Nat)) < lo f + (pr f : Nat) then 24 else 16)
theorem odd_bl {q p : Nat} (h0 : q ≠ 0) (h : q ≤ 2 ^ p) : bl (q / 2 ^ lw q) ≤ p ∨ p = 0 := by
  rcases Nat.eq_zero_or_pos p with hp | hp
  · exact .inr hp
  left
  rcases Nat.lt_or_ge q (2 ^ p) with c | c
  · exact bl_le_of_lt (Nat.lt_of_le_of_lt (Nat.div_le_self _ _) c)
  · have e : q = 2 ^ p := by omega
    have hw : lw q = p := lw_eq ⟨0, by rw [e]; omega⟩
    rw [hw, e, Nat.div_self (pw_pos p)]
    have : bl 1 = 1 := by decide
    omega
theorem top_lw {n : Nat} (h : n ≠ 0) : bl (n / 2 ^ lw n) + lw n = bl n := by
  have := lw_lt h
  rw [bl_down]; omega
end Go.Proofs.YtbcjdlljmhfhdaaDoor.Eng.K

/- Rounding, the program: the first bits of a number, and what is behind them. -/
set_option linter.unusedVariables false
set_option linter.unusedSimpArgs false
namespace Go.Proofs.YtbcjdlljmhfhdaaDoor.Eng.K
open Go.RowKit

def bN (b : Bool) : Nat := if b = true then 1 else 0
/-- What is known of a size: its first bits H, and whether something is behind them; d of the bits below the unit. -/
theorem rnd_eq {m : Int} {s : Bool} {n k n' k' : Nat} (h1 : n / 2 ^ k = n' / 2 ^ k') (h2 : 2 ^ k ≤ 2 * (n % 2 ^ k) ↔ 2 ^ k' ≤ 2 * (n' % 2 ^ k')) (h3 : 2 * (n % 2 ^ k) % 2 ^ k = 0 ↔ 2 * (n' % 2 ^ k') % 2 ^ k' = 0) : rnd m s n k = rnd m s n' k' := by
  unfold rnd
  rw [h1, decide_eq_decide.2 h2, decide_eq_decide.2 (show 2 * (n % 2 ^ k) % 2 ^ k ≠ 0 ↔ 2 * (n' % 2 ^ k') % 2 ^ k' ≠ 0 from not_congr h3)]
theorem dbl_mod {x M : Nat} (h : x < M) : 2 * x % M = 0 ↔ x = 0 ∨ 2 * x = M := by
  by_cases c : 2 * x < M
  · rw [Nat.mod_eq_of_lt c]; omega
  · have : 2 * x % M = 2 * x - M := by rw [Nat.mod_eq_sub_mod (by omega), Nat.mod_eq_of_lt (by omega)]
    rw [this]; omega
theorem split_pow {H j r d : Nat} (hr : r < 2 ^ j) : (H * 2 ^ j + r) / 2 ^ (d + j) = H / 2 ^ d ∧ (H * 2 ^ j + r) % 2 ^ (d + j) = H % 2 ^ d * 2 ^ j + r := by
  have := shift_nat (X := H) (P := 2 ^ j) (Q := 2 ^ d) (c := r) (pw_pos j) hr
  rw [Nat.pow_add, Nat.mul_comm (2 ^ d)]
  exact ⟨this.1, by rw [this.2, Nat.mul_comm]⟩
/-- Only whether something is behind counts. -/
theorem rnd_sticky (m : Int) (s : Bool) {H j r d : Nat} (hr : r < 2 ^ j) (hd : 1 ≤ d) : rnd m s (H * 2 ^ j + r) (d + j) = rnd m s (2 * H + bN (decide (r ≠ 0))) (d + 1) := by
  have hb : bN (decide (r ≠ 0)) < 2 ^ 1 := by unfold bN; split <;> omega
  have hb0 : bN (decide (r ≠ 0)) = 0 ↔ r = 0 := by
    unfold bN
    by_cases c : r = 0
    · simp [c]
    · simp [c]
  have e0 : 2 * H + bN (decide (r ≠ 0)) = H * 2 ^ 1 + bN (decide (r ≠ 0)) := by omega
  rw [e0]
  generalize bN (decide (r ≠ 0)) = b at *
  obtain ⟨a1, a2⟩ := split_pow (H := H) (d := d) hr
  obtain ⟨b1, b2⟩ := split_pow (H := H) (d := d) hb
  have hh := Nat.mod_lt H (pw_pos d)
  have hj := pw_pos j
  obtain ⟨d', rfl⟩ : ∃ d', d = d' + 1 := ⟨d - 1, by omega⟩
  have he : 2 ^ (d' + 1) = 2 * 2 ^ d' := by rw [Nat.pow_succ, Nat.mul_comm]
  refine rnd_eq (by rw [a1, b1]) ?_ ?_
  · rw [a2, b2, Nat.pow_add 2 (d' + 1) j, Nat.pow_add 2 (d' + 1) 1, he]
    rw [he] at hh
    generalize H % (2 * 2 ^ d') = h at *
    generalize 2 ^ d' = p at *
    generalize 2 ^ j = q at *
    constructor
    · intro h1
      rcases Nat.lt_or_ge h p with c | c
      · exfalso
        have h2 : (h + 1) * q ≤ p * q := Nat.mul_le_mul_right _ c
        rw [Nat.add_mul, Nat.one_mul] at h2
        rw [Nat.mul_assoc] at h1
        omega
      · omega
    · intro h1
      have h2 : p * q ≤ h * q := Nat.mul_le_mul_right _ (by omega)
      rw [Nat.mul_assoc]; omega
  · have l1 : H % 2 ^ (d' + 1) * 2 ^ j + r < 2 ^ (d' + 1 + j) := by
      rw [Nat.pow_add 2 (d' + 1) j]
      have h2 : (H % 2 ^ (d' + 1) + 1) * 2 ^ j ≤ 2 ^ (d' + 1) * 2 ^ j := Nat.mul_le_mul_right _ hh
      rw [Nat.add_mul, Nat.one_mul] at h2
      omega
    have l2 : H % 2 ^ (d' + 1) * 2 ^ 1 + b < 2 ^ (d' + 1 + 1) := by rw [Nat.pow_add 2 (d' + 1) 1]; omega
    rw [a2, b2, dbl_mod l1, dbl_mod l2, Nat.pow_add 2 (d' + 1) j, Nat.pow_add 2 (d' + 1) 1, he]
    rw [he] at hh
    generalize H % (2 * 2 ^ d') = h at *
    generalize 2 ^ d' = p at *
    generalize 2 ^ j = q at *
    constructor
    · rintro (h1 | h1)
      · have h2 : h * q = 0 := by omega
        rcases Nat.mul_eq_zero.1 h2 with h3 | h3
        · left; have := hb0.2 (by omega); omega
        · omega
      · right
        rw [Nat.mul_assoc] at h1
        rcases Nat.lt_trichotomy h p with c | c | c
        · have h2 : (h + 1) * q ≤ p * q := Nat.mul_le_mul_right _ c
          rw [Nat.add_mul, Nat.one_mul] at h2
          omega
        · subst c
          have := hb0.2 (by omega)
          omega
        · have h2 : (p + 1) * q ≤ h * q := Nat.mul_le_mul_right _ c
          rw [Nat.add_mul, Nat.one_mul] at h2
          omega
    · rintro (h1 | h1)
      · left
        have h2 : h = 0 := by omega
        have h3 := hb0.1 (by omega)
        rw [h2, h3]; omega
      · right
        have h2 : h = p := by omega
        have h3 := hb0.1 (by omega)
        rw [h2, h3, Nat.mul_assoc]; omega
theorem ex_sticky {H j r d : Nat} (hr : r < 2 ^ j) : (H * 2 ^ j + r) % 2 ^ (d + j) = 0 ↔ (2 * H + bN (decide (r ≠ 0))) % 2 ^ (d + 1) = 0 := by
  have hb : bN (decide (r ≠ 0)) < 2 ^ 1 := by unfold bN; split <;> omega
  have hb0 : bN (decide (r ≠ 0)) = 0 ↔ r = 0 := by
    unfold bN
    by_cases c : r = 0
    · simp [c]
    · simp [c]
  have e0 : 2 * H + bN (decide (r ≠ 0)) = H * 2 ^ 1 + bN (decide (r ≠ 0)) := by omega
  rw [e0]
  generalize bN (decide (r ≠ 0)) = b at *
  rw [(split_pow (H := H) (d := d) hr).2, (split_pow (H := H) (d := d) hb).2]
  have hj := pw_pos j
  constructor
  · intro h
    have h2 : H % 2 ^ d * 2 ^ j = 0 := by omega
    rcases Nat.mul_eq_zero.1 h2 with h3 | h3
    · have := hb0.2 (by omega); omega
    · omega
  · intro h
    have h2 : H % 2 ^ d = 0 := by omega
    have h3 := hb0.1 (by omega)
    rw [h2, h3]; omega
/-- In units of 2^E, of first bits H with their top at T. -/
def UP (m : Int) (s : Bool) (H : Nat) (T : Int) (b : Bool) (E : Int) : Nat := rnd m s (2 * H + bN b) ((E - T + 64).toNat + 1)
def XP (H : Nat) (T : Int) (b : Bool) (E : Int) : Bool := decide ((2 * H + bN b) % 2 ^ ((E - T + 64).toNat + 1) = 0)
/-- A number's first 64 bits. -/
def hd64 (n : Nat) : Nat := n * 2 ^ (64 - bl n) / 2 ^ (bl n - 64)
def mr64 (n : Nat) : Bool := decide (n % 2 ^ (bl n - 64) ≠ 0)
theorem hd64_b {n : Nat} (h : n ≠ 0) : 2 ^ 63 ≤ hd64 n ∧ hd64 n < 2 ^ 64 := by
  have h1 := lt_bl n
  have h2 := bl_le h
  have hp := bl_pos h
  unfold hd64
  by_cases c : bl n ≤ 64
  · have e1 : bl n - 64 = 0 := by omega
    rw [e1, Nat.pow_zero, Nat.div_one]
    have h3 : 2 ^ (bl n - 1) * 2 ^ (64 - bl n) ≤ n * 2 ^ (64 - bl n) := Nat.mul_le_mul_right _ h2
    have h4 : n * 2 ^ (64 - bl n) < 2 ^ bl n * 2 ^ (64 - bl n) := Nat.mul_lt_mul_of_pos_right h1 (pw_pos _)
    rw [← Nat.pow_add] at h3 h4
    rw [show bl n - 1 + (64 - bl n) = 63 by omega] at h3
    rw [show bl n + (64 - bl n) = 64 by omega] at h4
    exact ⟨h3, h4⟩
  · have e1 : 64 - bl n = 0 := by omega
    rw [e1, Nat.pow_zero, Nat.mul_one]
    constructor
    · rw [Nat.le_div_iff_mul_le (pw_pos _), ← Nat.pow_add, show 63 + (bl n - 64) = bl n - 1 by omega]; exact h2
    · rw [Nat.div_lt_iff_lt_mul (pw_pos _), ← Nat.pow_add, show 64 + (bl n - 64) = bl n by omega]; exact h1
theorem UP_R (m : Int) (s : Bool) {n : Nat} (hn : n ≠ 0) {e E : Int} (h : 1 ≤ E - (e + (bl n : Nat)) + 64) : UP m s (hd64 n) (e + (bl n : Nat)) (mr64 n) E = R m s n e E ∧ XP (hd64 n) (e + (bl n : Nat)) (mr64 n) E = exR n e E := by
  have hp := bl_pos hn
  generalize hd : (E - (e + (bl n : Nat)) + 64).toNat = d
  by_cases c : 64 ≤ bl n
  · have e1 : 64 - bl n = 0 := by omega
    have hH : hd64 n = n / 2 ^ (bl n - 64) := by unfold hd64; rw [e1, Nat.pow_zero, Nat.mul_one]
    have hsp : n = hd64 n * 2 ^ (bl n - 64) + n % 2 ^ (bl n - 64) := by
      rw [hH]
      have := Nat.div_add_mod n (2 ^ (bl n - 64))
      rw [Nat.mul_comm] at this
      exact this.symm
    have hr := Nat.mod_lt n (pw_pos (bl n - 64))
    have hk : (E - e).toNat = d + (bl n - 64) := by omega
    have hz : (e - E).toNat = 0 := by omega
    have st := rnd_sticky m s (H := hd64 n) (d := d) hr (by omega)
    have ex := ex_sticky (H := hd64 n) (d := d) hr
    rw [← hsp] at st ex
    unfold UP XP R exR mr64
    rw [hd, hk, hz, Nat.pow_zero, Nat.mul_one]
    exact ⟨st.symm, decide_eq_decide.2 ex.symm⟩
  · have e1 : bl n - 64 = 0 := by omega
    have hH : hd64 n = n * 2 ^ (64 - bl n) := by unfold hd64; rw [e1, Nat.pow_zero, Nat.div_one]
    have hm : mr64 n = false := by unfold mr64; rw [e1, Nat.pow_zero, Nat.mod_one]; rfl
    have hR := R_up m s n (e - (64 - bl n : Nat)) E (64 - bl n)
    have hX := exR_up n (e - (64 - bl n : Nat)) E (64 - bl n)
    rw [show e - ((64 - bl n : Nat) : Int) + ((64 - bl n : Nat) : Int) = e by omega, ← hH] at hR hX
    rw [← hR, ← hX, hm]
    unfold UP XP R exR bN
    rw [if_neg (by simp), Nat.add_zero, hd, show (e - ((64 - bl n : Nat) : Int) - E).toNat = 0 by omega, show (E - (e - ((64 - bl n : Nat) : Int))).toNat = d by omega, Nat.pow_zero, Nat.mul_one]
    have := rnd_up m s (hd64 n) d 1
    rw [Nat.pow_one, Nat.mul_comm] at this
    refine ⟨this, ?_⟩
    apply decide_eq_decide.2
    rw [Nat.pow_succ, Nat.mul_comm 2, Nat.mul_mod_mul_right]
    omega
end Go.Proofs.YtbcjdlljmhfhdaaDoor.Eng.K

/- Rounding, the program: units, the word, the flags. -/
set_option linter.unusedVariables false
set_option linter.unusedSimpArgs false
namespace Go.Proofs.YtbcjdlljmhfhdaaDoor.Eng.K
open Go.RowKit

theorem up_eq (m : Int) (s odd half more : Bool) : round_up.f m s odd half more = some (upB m s odd half more) := by
  unfold round_up.f upB
  by_cases c1 : m = 1
  · rw [if_pos c1, if_pos c1]; cases more <;> cases odd <;> cases half <;> rfl
  rw [if_neg c1, if_neg c1]
  by_cases c2 : m = 2
  · rw [if_pos c2, if_pos c2]
  rw [if_neg c2, if_neg c2]
  by_cases c4 : m = 4
  · rw [if_pos c4, if_pos c4]; cases s <;> cases half <;> cases more <;> rfl
  rw [if_neg c4, if_neg c4]
  by_cases c5 : m = 5
  · rw [if_pos c5, if_pos c5]; cases s <;> cases half <;> cases more <;> rfl
  · rw [if_neg c5, if_neg c5]
theorem btoi_eq (b : Bool) : round_btoi.f b = some (bN b : Int) := by cases b <;> rfl
theorem and1 (a : Nat) (ha : a < 18446744073709551616) : Go.bits .and .u64 (a : Int) 1 = ((a % 2 : Nat) : Int) := and_low a 1 ha (by omega)
theorem units_j2 (m : Int) (s : Bool) {W : Nat} (hW : W < 9223372036854775808) (half more : Bool) : Ev (fun k => round_part_units.j2 k m s (W : Int) half more) (((W + bN (upB m s (decide (W % 2 = 1)) half more) : Nat) : Int), !half && !more) := by
  have hb : bN (upB m s (decide (W % 2 = 1)) half more) ≤ 1 := by unfold bN; split <;> omega
  refine ev_step ?_
  simp only [round_part_units.j2]
  rw [and1 W (by omega)]
  have e1 : decide (((W % 2 : Nat) : Int) = 1) = decide (W % 2 = 1) := decide_eq_decide.2 (by omega)
  rw [e1]
  refine ev_bind (up_eq _ _ _ _ _) ?_; try dsimp only
  refine ev_bind (btoi_eq _) ?_; try dsimp only
  rw [← Int.natCast_add, u64_n (by omega)]
  cases half
  · exact ev_pos rfl (Ev.now _)
  · exact ev_neg (by simp) (Ev.now _)
/-- The bits about the unit. -/
theorem bits_about {H d : Nat} (b : Bool) (hd : 1 ≤ d) : (2 * H + bN b) / 2 ^ (d + 1) = H / 2 ^ d ∧
    decide (2 ^ (d + 1) ≤ 2 * ((2 * H + bN b) % 2 ^ (d + 1))) = decide (H / 2 ^ (d - 1) % 2 = 1) ∧
    decide (2 * ((2 * H + bN b) % 2 ^ (d + 1)) % 2 ^ (d + 1) ≠ 0) = (b || decide (H % 2 ^ (d - 1) ≠ 0)) ∧
    decide ((2 * H + bN b) % 2 ^ (d + 1) = 0) = (!decide (H / 2 ^ (d - 1) % 2 = 1) && !(b || decide (H % 2 ^ (d - 1) ≠ 0))) := by
  have hb : bN b < 2 ^ 1 := by unfold bN; split <;> omega
  have hb0 : bN b = 0 ↔ b = false := by unfold bN; cases b <;> simp
  have hb1 : bN b ≤ 1 := by unfold bN; split <;> omega
  obtain ⟨d', rfl⟩ : ∃ d', d = d' + 1 := ⟨d - 1, by omega⟩
  have hs := split_pow (H := H) (d := d' + 1) hb
  have e0 : H * 2 ^ 1 + bN b = 2 * H + bN b := by omega
  rw [e0] at hs
  have hm : H % 2 ^ (d' + 1) = H % 2 ^ d' + 2 ^ d' * (H / 2 ^ d' % 2) := by rw [Nat.pow_succ, Nat.mod_mul]
  have hl := Nat.mod_lt H (pw_pos d')
  have h2 : H / 2 ^ d' % 2 = 0 ∨ H / 2 ^ d' % 2 = 1 := by omega
  have hp : 2 ^ (d' + 1 + 1) = 4 * 2 ^ d' := by rw [Nat.pow_succ, Nat.pow_succ]; omega
  have hx : H % 2 ^ (d' + 1) * 2 ^ 1 + bN b < 4 * 2 ^ d' := by
    rw [hm]; rcases h2 with h | h <;> rw [h] <;> omega
  rw [hs.1, hs.2, hp]
  rw [show d' + 1 - 1 = d' from rfl]
  refine ⟨rfl, ?_, ?_, ?_⟩
  · apply decide_eq_decide.2
    rw [hm]; rcases h2 with h | h <;> rw [h] <;> constructor <;> intro h3 <;> omega
  · have e3 : (b || decide (H % 2 ^ d' ≠ 0)) = decide (¬ (bN b = 0 ∧ H % 2 ^ d' = 0)) := by
      by_cases c : H % 2 ^ d' = 0
      · cases b <;> simp [c, bN]
      · cases b <;> simp [c, bN]
    rw [e3]
    apply decide_eq_decide.2
    apply not_congr
    rw [dbl_mod hx, hm]
    rcases h2 with h | h <;> rw [h] <;> constructor
    · rintro (h3 | h3) <;> omega
    · rintro ⟨h3, h4⟩; left; omega
    · rintro (h3 | h3) <;> omega
    · rintro ⟨h3, h4⟩; right; omega
  · have e3 : (!decide (H / 2 ^ d' % 2 = 1) && !(b || decide (H % 2 ^ d' ≠ 0))) = decide (¬ (H / 2 ^ d' % 2 = 1) ∧ (bN b = 0 ∧ H % 2 ^ d' = 0)) := by
      by_cases c : H % 2 ^ d' = 0
      · rcases h2 with h | h <;> cases b <;> simp [c, h, bN]
      · rcases h2 with h | h <;> cases b <;> simp [c, h, bN]
    rw [e3]
    apply decide_eq_decide.2
    rw [hm]
    rcases h2 with h | h <;> rw [h] <;> constructor <;> intro h3 <;> omega
theorem units_ev (m : Int) (s : Bool) {H : Nat} (hH : 2 ^ 63 ≤ H ∧ H < 2 ^ 64) {T E : Int} (b : Bool) (hd : 1 ≤ E - T + 64) (h1 : -1000000000 ≤ T) (h2 : T ≤ 1000000000) (h3 : -1000000000 ≤ E) (h4 : E ≤ 1000000000) :
    Ev (fun k => round_part_units.f k (H : Int) T b m s E) ((UP m s H T b E : Int), XP H T b E) := by
  have ew : wrap64 (wrap64 (E - T) + 64) = E - T + 64 := by unfold wrap64; omega
  unfold round_part_units.f
  rw [ew]
  clear ew
  obtain ⟨d, hdd⟩ := Int.eq_ofNat_of_zero_le (show 0 ≤ E - T + 64 by omega)
  have hdn : (E - T + 64).toNat = d := by omega
  unfold UP XP
  rw [hdn, hdd]
  rw [hdd] at hd
  clear hdn hdd
  have hd1 : 1 ≤ d := by omega
  have hbb : bN b ≤ 1 := by unfold bN; split <;> omega
  by_cases c : d > 64
  · have hp : 2 ^ 66 ≤ 2 ^ (d + 1) := Nat.pow_le_pow_right (by omega) (by omega)
    have e1 : rnd m s (2 * H + bN b) (d + 1) = bN (upB m s false false true) := by
      unfold rnd
      rw [Nat.div_eq_of_lt (by omega), Nat.mod_eq_of_lt (a := 2 * H + bN b) (by omega), Nat.mod_eq_of_lt (a := 2 * (2 * H + bN b)) (by omega)]
      rw [decide_eq_false (by omega : ¬ (0 % 2 = 1)), decide_eq_false (by omega : ¬ (2 ^ (d + 1) ≤ 2 * (2 * H + bN b))), decide_eq_true (by omega : 2 * (2 * H + bN b) ≠ 0), Nat.zero_add]
      rfl
    have e2 : decide ((2 * H + bN b) % 2 ^ (d + 1) = 0) = false := decide_eq_false (by rw [Nat.mod_eq_of_lt (by omega)]; omega)
    rw [e1, e2]
    refine ev_pos (by omega) ?_
    refine ev_bind (up_eq _ _ _ _ _) ?_; try dsimp only
    refine ev_bind (btoi_eq _) ?_; try dsimp only
    exact Ev.now _
  refine ev_neg (by omega) ?_
  obtain ⟨a1, a2, a3, a4⟩ := bits_about (H := H) b hd1
  have e1 : rnd m s (2 * H + bN b) (d + 1) = H / 2 ^ d + bN (upB m s (decide (H / 2 ^ d % 2 = 1)) (decide (H / 2 ^ (d - 1) % 2 = 1)) (b || decide (H % 2 ^ (d - 1) ≠ 0))) := by
    unfold rnd
    rw [a1, a2, a3]; rfl
  rw [e1, a4]
  clear a1 a2 a3 a4 e1
  have hW : H / 2 ^ d < 9223372036854775808 := by
    rw [Nat.div_lt_iff_lt_mul (pw_pos d)]
    have : 2 ^ 1 ≤ 2 ^ d := Nat.pow_le_pow_right (by omega) hd1
    have := Nat.mul_le_mul_left 9223372036854775808 this
    omega
  have last : Ev (fun k => round_part_units.j1 k m s (H : Int) T b (d : Int) ((H / 2 ^ d : Nat) : Int) false b) (((H / 2 ^ d + bN (upB m s (decide (H / 2 ^ d % 2 = 1)) (decide (H / 2 ^ (d - 1) % 2 = 1)) (b || decide (H % 2 ^ (d - 1) ≠ 0))) : Nat) : Int), (!decide (H / 2 ^ (d - 1) % 2 = 1) && !(b || decide (H % 2 ^ (d - 1) ≠ 0)))) := by
    have ew : wrap64 ((d : Int) - 1) = ((d - 1 : Nat) : Int) := by unfold wrap64; omega
    have hp64 : 2 ^ (d - 1) ≤ 2 ^ 63 := Nat.pow_le_pow_right (by omega) (by omega)
    have hpp := pw_pos (d - 1)
    have hq : H / 2 ^ (d - 1) ≤ H := Nat.div_le_self _ _
    refine ev_step ?_
    simp only [round_part_units.j1]
    rw [ew]
    clear ew
    rw [shr_n H (d - 1) (by show d - 1 ≤ 64; omega), and1 _ (by omega)]
    have e2 : decide (((H / 2 ^ (d - 1) % 2 : Nat) : Int) = 1) = decide (H / 2 ^ (d - 1) % 2 = 1) := decide_eq_decide.2 (by omega)
    have e3 : shl .u64 1 ((d - 1 : Nat) : Int) = ((2 ^ (d - 1) : Nat) : Int) := by
      have := shl_u64 (X := 1) (s := d - 1) (by omega) (by omega)
      rw [Nat.one_mul] at this
      exact this
    have e4 : IntKind.u64.wrap (((2 ^ (d - 1) : Nat) : Int) - 1) = ((2 ^ (d - 1) - 1 : Nat) : Int) := by
      rw [show ((2 ^ (d - 1) : Nat) : Int) - 1 = ((2 ^ (d - 1) - 1 : Nat) : Int) by omega]
      exact u64_n (by omega)
    have e5 : decide (¬ (((H % 2 ^ (d - 1) : Nat) : Int) = 0)) = decide (H % 2 ^ (d - 1) ≠ 0) := decide_eq_decide.2 (by omega)
    rw [e2, e3, e4, and_low H (d - 1) (by omega) (by omega), e5]
    refine ev_pos (by omega) (ev_pos (by omega) ?_)
    cases b
    · refine ev_neg (by simp) (ev_pos (by omega) ?_)
      exact units_j2 m s hW _ _
    · refine ev_pos rfl ?_
      exact units_j2 m s hW _ _
  by_cases c2 : d < 64
  · refine ev_pos (by omega) (ev_pos (by omega) ?_)
    rw [shr_n H d (by show d ≤ 64; omega)]
    exact last
  · have hd64 : d = 64 := by omega
    have e0 : H / 2 ^ d = 0 := Nat.div_eq_of_lt (by rw [hd64]; exact hH.2)
    refine ev_neg (by omega) ?_
    rw [e0] at last ⊢
    exact last
/-! ### the word -/
/-- What rounding comes to, of a top and of what is taken in each unit. -/
def roundG (f m : Int) (s : Bool) (T : Int) (U : Int → Nat) (X : Int → Bool) : Int × Int :=
  if (bl (U (max (T - (pr f : Nat)) (lo f))) : Int) + max (T - (pr f : Nat)) (lo f) > wd f then ((overW f m s : Int), 20)
  else ((((if U (max (T - (pr f : Nat)) (lo f)) = 0 then 0 else encN f (U (max (T - (pr f : Nat)) (lo f))) (max (T - (pr f : Nat)) (lo f))) + sgn f s : Nat) : Int),
    if X (max (T - (pr f : Nat)) (lo f)) = true then 0
    else if (bl (U (T - (pr f : Nat))) : Int) + (T - (pr f : Nat)) < lo f + (pr f : Nat) then 24 else 16)
theorem roundG_S (f m : Int) (s : Bool) (n : Nat) (e : Int) : roundG f m s (e + (bl n : Nat)) (R m s n e) (exR n e) = roundS f m s n e := rfl
theorem roundG_congr {f m : Int} {s : Bool} {T : Int} {U U' : Int → Nat} {X X' : Int → Bool} (h : ∀ E, T - (pr f : Nat) ≤ E → U E = U' E ∧ X E = X' E) : roundG f m s T U X = roundG f m s T U' X' := by
  unfold roundG
  rw [(h (max (T - (pr f : Nat)) (lo f)) (by omega)).1, (h (max (T - (pr f : Nat)) (lo f)) (by omega)).2, (h (T - (pr f : Nat)) (by omega)).1]
theorem formOf_eq {f : Int} (h : isF f) : round_formOf.f f = some ((pr f : Int), lo f, wd f, true) := by rcases h with rfl | rfl <;> rfl
theorem open_good {f m : Int} (h : isF f) (hm : isM m) : Ev (fun k => round_open.f k f m []) ((pr f : Int), lo f, wd f, 0) := by
  unfold round_open.f
  unfold isM at hm
  refine ev_bind (formOf_eq h) ?_; try dsimp only
  refine ev_neg (by simp) (ev_neg (by omega) (ev_neg (by omega) ?_))
  refine ev_step ?_
  simp only [round_open.l0]
  exact ev_neg (by simp) (Ev.now _)
theorem open_one {f m : Int} (h : isF f) (hm : isM m) {s : Bool} {l : List Int} {e : Int} (hd : My s l e) : Ev (fun k => round_open.f k f m [(s, l, e)]) ((pr f : Int), lo f, wd f, 0) := by
  unfold round_open.f
  unfold isM at hm
  refine ev_bind (formOf_eq h) ?_; try dsimp only
  refine ev_neg (by simp) (ev_neg (by omega) (ev_neg (by omega) ?_))
  have e1 : wrap64 (0 + 1) = 1 := by rw [w64n (by omega) (by omega)]; rfl
  have el : (([(s, l, e)] : List (Bool × List Int × Int)).length : Int) = 1 := rfl
  have r0 : rdT [.b, .is .u32, .i .i64] [(s, l, e)] 0 = (s, l, e) := rfl
  refine ev_step ?_
  simp only [round_open.l0, el, e1, r0]
  clear e1
  refine ev_pos (by omega) (ev_pos (by omega) (ev_pos (by omega) ?_))
  refine ev_bind (dyad_May_true hd) ?_; try dsimp only
  refine ev_neg (by simp) (ev_step ?_)
  simp only [round_open.l0]
  exact ev_neg (by omega) (Ev.now _)
theorem Over_j1 {f : Int} (h : isF f) (s b : Bool) : Ev (fun k => round_Over.j1 k f s b) ((((if b = true then mo f * 2 ^ fb f - 1 else mo f * 2 ^ fb f) + sgn f s : Nat) : Int), 0) := by
  refine ev_step ?_
  simp only [round_Over.j1]
  cases b
  · refine ev_neg (by simp) ?_
    refine Ev.bind (word_Inf_ev h s) ?_; try dsimp only
    exact Ev.now _
  · refine ev_pos rfl ?_
    refine Ev.bind (word_Greatest_ev h s) ?_; try dsimp only
    exact Ev.now _
theorem Over_ev {f m : Int} (h : isF f) (hm : isM m) (s : Bool) : Ev (fun k => round_Over.f k f m s) ((overW f m s : Int), 0) := by
  have j := fun b => Over_j1 h s b
  unfold round_Over.f overW
  refine Ev.bind (open_good h hm) ?_; try dsimp only
  refine ev_neg (by simp) ?_
  by_cases c3 : m = 3
  · refine ev_pos c3 ?_
    have e : inw m s = true := by unfold inw; simp [c3]
    rw [e]; exact j true
  refine ev_neg c3 ?_
  by_cases c4 : m = 4
  · refine ev_pos c4 ?_
    have e : inw m s = s := by unfold inw; simp [c4]
    rw [e]
    cases s
    · exact ev_neg (by simp) (ev_neg (by omega) (j false))
    · exact ev_pos rfl (j true)
  refine ev_neg c4 ?_
  by_cases c5 : m = 5
  · refine ev_pos c5 ?_
    have e : inw m s = !s := by unfold inw; simp [c5]
    rw [e]; exact j (!s)
  · refine ev_neg c5 ?_
    have e : inw m s = false := by unfold inw; simp [c3, c4, c5]
    rw [e]; exact j false
end Go.Proofs.YtbcjdlljmhfhdaaDoor.Eng.K

/- Rounding, the program: a number as a word. -/
set_option linter.unusedVariables false
set_option linter.unusedSimpArgs false
namespace Go.Proofs.YtbcjdlljmhfhdaaDoor.Eng.K
open Go.RowKit

theorem word_Of_zero {f : Int} (h : isF f) : Ev (fun k => word_Of.f k f false [] 0) (0, 0) := by
  have hm : My false [] 0 := ⟨⟨Nm_nil, fun _ => ⟨rfl, rfl⟩, fun h => absurd rfl h⟩, by simp, by omega, by omega⟩
  have hn := nat_Num_ev Dg.nil (by simp)
  have e1 : numB [] = true := numB_small Nm_nil (by simp)
  rw [e1, if_pos rfl] at hn
  have hl := len64_ev (x := 0) (by omega)
  have b0 : bl (Int.toNat 0) = 0 := bl_zero
  rw [b0] at hl
  have hfb := fb_le h
  have w1 : wrap64 ((fb f : Int) + 1) = (fb f : Int) + 1 := by unfold wrap64; omega
  unfold word_Of.f
  refine Ev.bind (word_open_nil h) ?_; try dsimp only
  refine ev_neg (fun h => h rfl) ?_
  refine ev_bind (dyad_May_true hm) ?_; try dsimp only
  refine ev_neg (by simp) ?_
  refine Ev.bind (hn) ?_; try dsimp only
  refine Ev.bind (hl) ?_; try dsimp only
  rw [w1]
  clear w1
  refine ev_neg (by simp) (ev_neg (by omega) (ev_neg (by simp) ?_))
  exact ev_pos rfl (Ev.now _)
theorem UP_le {m : Int} {s : Bool} {H : Nat} (hH : H < 2 ^ 64) {T E : Int} {b : Bool} {p : Nat} (hp : p ≤ 64) (h : T - (p : Nat) ≤ E) : UP m s H T b E ≤ 2 ^ p := by
  have hb : bN b ≤ 1 := by unfold bN; split <;> omega
  have h1 : (2 * H + bN b) / 2 ^ ((E - T + 64).toNat + 1) < 2 ^ p := by
    rw [Nat.div_lt_iff_lt_mul (pw_pos _), ← Nat.pow_add]
    have : 2 ^ 65 ≤ 2 ^ (p + ((E - T + 64).toNat + 1)) := Nat.pow_le_pow_right (by omega) (by omega)
    omega
  unfold UP rnd
  split <;> omega
theorem word_of_size {f : Int} (h : isF f) (s : Bool) {q : Nat} {E : Int} (hq : q ≤ 2 ^ pr f) (hE : lo f ≤ E) (hw : (bl q : Int) + E ≤ wd f) (h0 : q ≠ 0) : Ev (fun k => word_Of.f k f (mk (sv s q) E).1 (mk (sv s q) E).2.1 (mk (sv s q) E).2.2) (((encN f q E + sgn f s : Nat) : Int), 0) := by
  have hpr := pr_eq h
  have hfb := fb_le h
  have hl := lo_b h
  have hwb := wd_b h
  have h2 := (odd_bl h0 hq).resolve_right (by omega)
  have h3 := top_lw h0
  have hdy := Dy_mk (sv s q) E
  rw [mk_sv s h0] at hdy ⊢
  have hne : D (q / 2 ^ lw q) ≠ [] := by
    intro hc
    have h1 : V (D (q / 2 ^ lw q)) = 0 := by rw [hc]; rfl
    rw [V_D] at h1
    rw [h1, bl_zero] at h3
    have := lw_lt h0
    omega
  have hmy : My s (D (q / 2 ^ lw q)) (E + (lw q : Nat)) := ⟨hdy, len_bl (by omega), by omega, by omega⟩
  have := word_Of_ev h hmy hne (by rw [V_D]; exact h2) (by omega) (by rw [V_D]; omega)
  rw [V_D] at this
  exact this
theorem part_j1 {f m : Int} (h : isF f) (s : Bool) {H : Nat} (hH : 2 ^ 63 ≤ H ∧ H < 2 ^ 64) {T : Int} (b : Bool) (h1 : -100000000 ≤ T) (h2 : T ≤ 100000000) (x : Bool) (w : Int) :
    Ev (fun k => round_part_word.j1 k m s (H : Int) T b (pr f : Int) (lo f) (wd f) x w) (w, if x = true then 0 else if (bl (UP m s H T b (T - (pr f : Nat))) : Int) + (T - (pr f : Nat)) < lo f + (pr f : Nat) then 24 else 16) := by
  have hpr := pr_eq h
  have hfb := fb_le h
  have hl := lo_b h
  have hu := units_ev m s hH (T := T) (E := T - (pr f : Nat)) b (by omega) (by omega) (by omega) (by omega) (by omega)
  have hle := UP_le (m := m) (s := s) (H := H) (b := b) hH.2 (T := T) (E := T - (pr f : Nat)) (p := pr f) (by omega) (Int.le_refl _)
  have h2f := two_fb h
  have hlen := len64_ev (x := (UP m s H T b (T - (pr f : Nat)) : Int)) ⟨by omega, by omega⟩
  rw [Int.toNat_natCast] at hlen
  have hb : bl (UP m s H T b (T - (pr f : Nat))) ≤ 64 := bl_le_of_lt (by omega)
  refine ev_step ?_
  simp only [round_part_word.j1]
  cases x
  · refine ev_neg (by simp) ?_
    have w0 : wrap64 (T - ((pr f : Nat) : Int)) = T - ((pr f : Nat) : Int) := by unfold wrap64; omega
    rw [w0]
    clear w0
    refine Ev.bind (hu) ?_; try dsimp only
    refine Ev.bind (hlen) ?_; try dsimp only
    have w1 : wrap64 (wrap64 ((bl (UP m s H T b (T - (pr f : Nat))) : Int) + T) - ((pr f : Nat) : Int)) = (bl (UP m s H T b (T - (pr f : Nat))) : Int) + (T - (pr f : Nat)) := by unfold wrap64; omega
    have w2 : wrap64 (lo f + ((pr f : Nat) : Int)) = lo f + ((pr f : Nat) : Int) := by clear w1; unfold wrap64; omega
    rw [w1, w2]
    clear w1 w2
    rw [if_neg Bool.false_ne_true]
    by_cases c : (bl (UP m s H T b (T - (pr f : Nat))) : Int) + (T - (pr f : Nat)) < lo f + (pr f : Nat)
    · exact ev_pos c (ev_eq (Ev.now _) (by rw [if_pos c]))
    · exact ev_neg c (ev_eq (Ev.now _) (by rw [if_neg c]))
  · exact ev_pos rfl (Ev.now _)
theorem part_word_ev {f m : Int} (h : isF f) (hm : isM m) (s : Bool) {H : Nat} (hH : 2 ^ 63 ≤ H ∧ H < 2 ^ 64) {T : Int} (b : Bool) (h1 : -100000000 ≤ T) (h2 : T ≤ 100000000) :
    Ev (fun k => round_part_word.f k (H : Int) T b f (pr f : Int) (lo f) (wd f) m s) (roundG f m s T (UP m s H T b) (XP H T b)) := by
  have hpr := pr_eq h
  have hfb := fb_le h
  have hl := lo_b h
  have hwb := wd_b h
  have h2f := two_fb h
  obtain ⟨E, hE⟩ : ∃ E, E = max (T - (pr f : Nat)) (lo f) := ⟨_, rfl⟩
  have hu := units_ev m s hH (T := T) (E := E) b (by omega) (by omega) (by omega) (by omega) (by omega)
  have hle := UP_le (m := m) (s := s) (H := H) (b := b) hH.2 (T := T) (E := E) (p := pr f) (by omega) (by omega)
  have hlen := len64_ev (x := (UP m s H T b E : Int)) ⟨by omega, by omega⟩
  rw [Int.toNat_natCast] at hlen
  have hb : bl (UP m s H T b E) ≤ 64 := bl_le_of_lt (by omega)
  have ho := nat_Of_ev (n := (UP m s H T b E : Int)) (by omega) (by omega)
  rw [Int.toNat_natCast] at ho
  have hj := part_j1 (m := m) h s hH (T := T) b h1 h2 (XP H T b E)
  have hwos := word_of_size h s (q := UP m s H T b E) (E := E) hle (by omega)
  have em : mx (wrap64 (T - ((pr f : Nat) : Int))) (lo f) = E := by rw [mx_eq, wsubx (by omega) (by omega) (by omega) (by omega), hE]
  unfold round_part_word.f roundG
  rw [em, ← hE]
  clear em
  refine Ev.bind (hu) ?_; try dsimp only
  refine Ev.bind (hlen) ?_; try dsimp only
  have w1 : wrap64 ((bl (UP m s H T b E) : Int) + E) = (bl (UP m s H T b E) : Int) + E := waddx (by omega) (by omega) (by omega) (by omega)
  rw [w1]
  clear w1
  by_cases c : (bl (UP m s H T b E) : Int) + E > wd f
  · rw [if_pos c]
    refine ev_pos c ?_
    refine Ev.bind (Over_ev h hm s) ?_; try dsimp only
    exact Ev.now _
  rw [if_neg c]
  refine ev_neg c ?_
  refine Ev.bind (ho) ?_; try dsimp only
  have m1 := dyad_Make_ev s (Nm_D (UP m s H T b E)) (len_bl (by omega)) E
  rw [V_D, makeR_ok3 (by omega) (by omega)] at m1
  refine Ev.bind (m1) ?_; try dsimp only
  by_cases c0 : UP m s H T b E = 0
  · have hz := word_Of_zero h
    rw [if_pos c0]
    rw [c0, sv_zero, mk_zero]
    refine Ev.bind (hz) ?_; try dsimp only
    refine ev_pos rfl ?_
    refine Ev.bind (word_Zero_ev h s) ?_; try dsimp only
    rw [Nat.zero_add]
    exact hj _
  · rw [if_neg c0]
    refine Ev.bind (hwos (by omega) c0) ?_; try dsimp only
    refine ev_neg (by omega) ?_
    exact hj _
theorem partOf_ev {s : Bool} {l : List Int} {e : Int} (hd : My s l e) (h0 : V l ≠ 0) : Ev (fun k => round_partOf.f k s l e) ((hd64 (V l) : Int), e + (bl (V l) : Nat), mr64 (V l)) := by
  have hlen := hd.len
  have hb := bl_list hd.dy.nm.dg
  have hlo := hd.lo
  have hhi := hd.hi
  have hH := hd64_b h0
  unfold round_partOf.f
  refine Ev.bind (nat_Len_ev hd.dy.nm hlen) ?_; try dsimp only
  have w1 : wrap64 (e + ((bl (V l) : Nat) : Int)) = e + ((bl (V l) : Nat) : Int) := waddx (by omega) (by omega) (by omega) (by omega)
  have w2 : wrap64 (64 - ((bl (V l) : Nat) : Int)) = 64 - ((bl (V l) : Nat) : Int) := by clear w1; unfold wrap64; omega
  rw [w1, w2]
  clear w1 w2
  have hs := nat_Shift_ev hd.dy.nm hlen (64 - ((bl (V l) : Nat) : Int))
  have es : shiftR (V l) (64 - ((bl (V l) : Nat) : Int)) = (D (hd64 (V l)), mr64 (V l), 0) := by
    by_cases c : bl (V l) ≤ 64
    · have e1 : 64 - ((bl (V l) : Nat) : Int) = ((64 - bl (V l) : Nat) : Int) := by omega
      have e2 : bl (V l) - 64 = 0 := by omega
      rw [e1, shiftR_up (by omega)]
      unfold hd64 mr64
      rw [e2, Nat.pow_zero, Nat.div_one, Nat.mod_one]; rfl
    · have e1 : 64 - ((bl (V l) : Nat) : Int) = -((bl (V l) - 64 : Nat) : Int) := by omega
      have e2 : 64 - bl (V l) = 0 := by omega
      rw [e1, shiftR_down (by omega) (by omega)]
      unfold hd64 mr64
      rw [e2, Nat.pow_zero, Nat.mul_one]
  rw [es] at hs
  refine Ev.bind (hs) ?_; try dsimp only
  have hl2 : (D (hd64 (V l))).length ≤ 2 := D_lt (by omega)
  have hn := nat_Num_ev (Dg_D (hd64 (V l))) (by omega)
  rw [numB_small (Nm_D _) (by rw [V_D]; omega), if_pos rfl, V_D] at hn
  refine Ev.bind (hn) ?_; try dsimp only
  exact Ev.now _
theorem Round_ev {f m : Int} (h : isF f) (hm : isM m) {s : Bool} {l : List Int} {e : Int} (hd : My s l e) (h0 : V l ≠ 0) : Ev (fun k => round_Round.f k f m s l e) ((roundS f m s (V l) e).1, (roundS f m s (V l) e).2, 0) := by
  have hb := bl_list hd.dy.nm.dg
  have hlen := hd.len
  have hlo := hd.lo
  have hhi := hd.hi
  have hpr := pr_eq h
  have hfb := fb_le h
  have hp := part_word_ev h hm s (hd64_b h0) (T := e + (bl (V l) : Nat)) (mr64 (V l)) (by omega) (by omega)
  have hg : roundG f m s (e + (bl (V l) : Nat)) (UP m s (hd64 (V l)) (e + (bl (V l) : Nat)) (mr64 (V l))) (XP (hd64 (V l)) (e + (bl (V l) : Nat)) (mr64 (V l))) = roundS f m s (V l) e := by
    rw [← roundG_S]
    refine roundG_congr ?_
    intro E hE
    exact UP_R m s h0 (by omega)
  rw [hg] at hp
  unfold round_Round.f
  refine Ev.bind (open_one h hm hd) ?_; try dsimp only
  refine ev_neg (by simp) ?_
  refine Ev.bind (dyad_Sign_ev hd) ?_; try dsimp only
  refine ev_neg (by rw [sv_sign h0]; split <;> omega) ?_
  refine Ev.bind (partOf_ev hd h0) ?_; try dsimp only
  refine Ev.bind (hp) ?_; try dsimp only
  exact Ev.now _
end Go.Proofs.YtbcjdlljmhfhdaaDoor.Eng.K

/- Words of one format as words of another; what is asked ahead. -/
set_option linter.unusedVariables false
set_option linter.unusedSimpArgs false
namespace Go.Proofs.YtbcjdlljmhfhdaaDoor.Eng.K
open Go.RowKit

theorem roundS_up (f m : Int) (s : Bool) {n : Nat} (hn : n ≠ 0) (e : Int) (j : Nat) : roundS f m s (n * 2 ^ j) e = roundS f m s n (e + j) := by
  have hu : unitR f (n * 2 ^ j) e = unitR f n (e + j) := by unfold unitR; rw [bl_up hn]; congr 1; omega
  have hb : e + (bl (n * 2 ^ j) : Nat) - (pr f : Nat) = e + j + (bl n : Nat) - (pr f : Nat) := by rw [bl_up hn]; omega
  unfold roundS
  simp only [hu, hb, R_up, exR_up]
theorem roundS_mk (f m : Int) {z : Int} (hz : z ≠ 0) (e : Int) : roundS f m (mk z e).1 (V (mk z e).2.1) (mk z e).2.2 = roundS f m (decide (z < 0)) z.natAbs e := by
  have hza : z.natAbs ≠ 0 := by omega
  obtain ⟨q, hq⟩ := lw_is hza
  have hd : z.natAbs / 2 ^ lw z.natAbs = 2 * q + 1 := by
    have : z.natAbs / 2 ^ lw z.natAbs = 2 ^ lw z.natAbs * (2 * q + 1) / 2 ^ lw z.natAbs := by rw [← hq]
    rw [this, Nat.mul_div_cancel_left _ (pw_pos _)]
  unfold mk
  rw [if_neg hz]
  show roundS f m (decide (z < 0)) (V (D (z.natAbs / 2 ^ lw z.natAbs))) (e + (lw z.natAbs : Nat)) = _
  rw [V_D, ← roundS_up f m _ (by rw [hd]; omega), hd]
  congr 1
  rw [Nat.mul_comm]; exact hq.symm
/-- Not too long, not too far out, for the program. -/
structure Mg (z e : Int) : Prop where
  b : bl z.natAbs ≤ 131072
  lo : -16777216 ≤ e
  hi : e + (bl z.natAbs : Nat) ≤ 16777216
theorem my_of {z e : Int} (h : Mg z e) : My (mk z e).1 (mk z e).2.1 (mk z e).2.2 := My_mk h.lo h.hi h.b
theorem V_mk_ne {z : Int} (hz : z ≠ 0) (e : Int) : V (mk z e).2.1 ≠ 0 := by
  have := mz_ne hz e
  intro h
  unfold mz at this
  rw [h, sv_zero] at this
  exact this rfl
theorem Round_mk {f m : Int} (h : isF f) (hm : isM m) {z e : Int} (hz : z ≠ 0) (hg : Mg z e) : Ev (fun k => round_Round.f k f m (mk z e).1 (mk z e).2.1 (mk z e).2.2) ((roundS f m (decide (z < 0)) z.natAbs e).1, (roundS f m (decide (z < 0)) z.natAbs e).2, 0) := by
  have := Round_ev h hm (my_of hg) (V_mk_ne hz e)
  rw [roundS_mk f m hz e] at this
  exact this
/-! ### words that are numbers -/
theorem w_sv {s : Bool} {n : Nat} (h : n ≠ 0) : decide (sv s n < 0) = s ∧ (sv s n).natAbs = n ∧ sv s n ≠ 0 := ⟨sv_neg h, sv_abs s n, fun h2 => h (sv_eq_zero.1 h2)⟩
/-! ### errors ahead -/
/-! ### To -/
end Go.Proofs.YtbcjdlljmhfhdaaDoor.Eng.K

/- Rounding far beyond the format's ends: the exponent may be brought near. -/
set_option linter.unusedVariables false
namespace Go.Proofs.YtbcjdlljmhfhdaaDoor.Eng.K
open Go.RowKit
/-- what a number's digits and exponent come to -/
def hexN (f m : Int) (s : Bool) (x : Nat × Int) : Int × Int × Int := if x.1 = 0 then ((sgn f s : Int), 0, 0) else ((roundS f m s x.1 x.2).1, (roundS f m s x.1 x.2).2, 0)
def negT : List UInt8 → Bool
  | 45 :: _ => true
  | _ => false
def bodyT : List UInt8 → List UInt8
  | 45 :: r => r
  | r => r
def hexO (f m : Int) (s : Bool) : Option (Nat × Int) → Int × Int × Int
  | some x => hexN f m s x
  | none => (0, 0, 12)
/-- a text's word, flags and error -/
def hexB (f m : Int) (s : Bool) (l : List UInt8) : Int × Int × Int :=
  if l = [105, 110, 102] then (((mo f * 2 ^ fb f + sgn f s : Nat) : Int), 0, 0)
  else if l.take 2 = [48, 120] then hexO f m s (readS (l.drop 2)) else (0, 0, 12)
def hexS (f m : Int) (l : List UInt8) : Int × Int × Int :=
  if 1200 < l.length then (0, 0, 3) else if l = [110, 97, 110] then ((nanW f : Int), 0, 0) else hexB f m (negT l) (bodyT l)
theorem hexN_up (f m : Int) (s : Bool) (n : Nat) (e : Int) (j : Nat) : hexN f m s (n * 2 ^ j, e) = hexN f m s (n, e + j) := by
  unfold hexN
  by_cases hn : n = 0
  · subst hn; simp
  · have : n * 2 ^ j ≠ 0 := Nat.ne_of_gt (Nat.mul_pos (Nat.pos_of_ne_zero hn) (pw_pos j))
    simp only
    rw [if_neg this, if_neg hn, roundS_up f m s hn e j]
end Go.Proofs.YtbcjdlljmhfhdaaDoor.Eng.K

/- The program's reading of a text to the base 16: digits, numbers, exponents, texts cut. -/
set_option linter.unusedVariables false
set_option linter.unusedSimpArgs false
namespace Go.Proofs.YtbcjdlljmhfhdaaDoor.Eng.K
open Go.RowKit Go.Proofs Go.Proofs.YtbcjdlljmhfhdaaDoor.Eng
/-- the character that stands at a place -/
theorem dec_at {s : ByteArray} {A B : List UInt8} {b : UInt8} (h : tl s = A ++ b :: B) :
    (b.toNat < 128 → Utf8.decode s A.length = (b.toNat, 1)) ∧ (128 ≤ b.toNat → 128 ≤ (Utf8.decode s A.length).1) := by
  have hs : A.length < s.size := by rw [tl_size_eq, h]; simp
  have hb : (s[A.length]'hs) = b := by
    have h1 : (tl s)[A.length]? = some b := by rw [h]; simp
    have h2 : (tl s)[A.length]? = some (s[A.length]'hs) := by
      unfold tl
      rw [List.getElem?_eq_getElem (by simpa using hs)]
      rfl
    rw [h1] at h2
    exact (Option.some.inj h2).symm
  exact ⟨fun h => by rw [decode_ascii s A.length hs (by rw [hb]; exact h), hb], fun h => dec_big s A.length hs (by rw [hb]; exact h)⟩
/-- a hexadecimal digit's value, or none -/
def hxv (r : Nat) : Int × Bool := if 48 ≤ r ∧ r ≤ 57 then (((r - 48 : Nat) : Int), true) else if 97 ≤ r ∧ r ≤ 102 then (((r - 87 : Nat) : Int), true) else (0, false)
theorem value_ev (r : Nat) : Ev (fun k => hexa_value.f k (r : Int)) (hxv r) := by
  unfold hexa_value.f hxv
  have e1 : 48 ≤ r → r ≤ 57 → (IntKind.i32.wrap ((r : Int) - 48)) % 4294967296 = ((r - 48 : Nat) : Int) := by
    intro h1 h2; simp [IntKind.wrap, IntKind.bits, IntKind.signed]; omega
  have e2 : 97 ≤ r → r ≤ 102 → ((IntKind.i32.wrap ((r : Int) - 97)) % 4294967296 + 10) % 4294967296 = ((r - 87 : Nat) : Int) := by
    intro h1 h2; simp [IntKind.wrap, IntKind.bits, IntKind.signed]; omega
  have j1 : ∀ b : Bool, (97 ≤ r → b = decide (r ≤ 102)) → (¬ 97 ≤ r → b = false) → Ev (fun k => hexa_value.j1 k (r : Int) b) (if 97 ≤ r ∧ r ≤ 102 then (((r - 87 : Nat) : Int), true) else (0, false)) := by
    intro b h1 h2
    refine ev_step ?_; simp only [hexa_value.j1]
    by_cases c : 97 ≤ r ∧ r ≤ 102
    · rw [if_pos c]
      refine ev_pos (by rw [h1 c.1]; simpa using c.2) ?_
      rw [e2 c.1 c.2]
      exact Ev.now _
    · rw [if_neg c]
      refine ev_neg ?_ (Ev.now _)
      by_cases c2 : 97 ≤ r
      · rw [h1 c2]; simp; omega
      · rw [h2 c2]; simp
  have j0 : ∀ b : Bool, (48 ≤ r → b = decide (r ≤ 57)) → (¬ 48 ≤ r → b = false) → Ev (fun k => hexa_value.j0 k (r : Int) b) (if 48 ≤ r ∧ r ≤ 57 then (((r - 48 : Nat) : Int), true) else if 97 ≤ r ∧ r ≤ 102 then (((r - 87 : Nat) : Int), true) else (0, false)) := by
    intro b h1 h2
    refine ev_step ?_; simp only [hexa_value.j0]
    by_cases c : 48 ≤ r ∧ r ≤ 57
    · rw [if_pos c]
      refine ev_pos (by rw [h1 c.1]; simpa using c.2) ?_
      rw [e1 c.1 c.2]
      exact Ev.now _
    · rw [if_neg c]
      refine ev_neg ?_ ?_
      · by_cases c2 : 48 ≤ r
        · rw [h1 c2]; simp; omega
        · rw [h2 c2]; simp
      · by_cases c2 : 97 ≤ r
        · exact ev_pos (by omega) (j1 _ (fun _ => by rw [decide_eq_decide]; omega) (fun h => absurd c2 h))
        · exact ev_neg (by omega) (j1 _ (fun h => absurd h c2) (fun _ => rfl))
  by_cases c2 : 48 ≤ r
  · exact ev_pos (by omega) (j0 _ (fun _ => by rw [decide_eq_decide]; omega) (fun h => absurd c2 h))
  · exact ev_neg (by omega) (j0 _ (fun h => absurd h c2) (fun _ => rfl))
theorem hxv_hx {b : UInt8} (h : isH b = true) : hxv b.toNat = ((((hx b).getD 0 : Nat) : Int), true) := by
  unfold isH hx at h
  unfold hxv hx
  split
  · rename_i c; rfl
  · rename_i c
    rw [if_neg c] at h
    split
    · rfl
    · rename_i c2; rw [if_neg c2] at h; cases h
theorem hxv_not {b : UInt8} (h : isH b = false) : (hxv b.toNat).2 = false := by
  unfold isH hx at h
  unfold hxv
  split at h
  · cases h
  · rename_i c
    rw [if_neg c]
    split at h
    · cases h
    · rename_i c2; rw [if_neg c2]
theorem hxv_big {r : Nat} (h : 128 ≤ r) : (hxv r).2 = false := by
  unfold hxv; rw [if_neg (by omega), if_neg (by omega)]
theorem isH_small {b : UInt8} (h : isH b = true) : b.toNat < 128 := by
  unfold isH hx at h
  split at h
  · omega
  · split at h
    · omega
    · cases h
theorem or_hex {d v : Nat} (hd : d < 268435456) (hv : v < 16) : Go.bits .or .u32 (((d : Int) * 16) % 4294967296) (v : Int) = ((16 * d + v : Nat) : Int) := by
  have h1 := shl32 d 4 (by omega)
  have h2 := up_digit d 4 v (by omega) (by omega) (by omega)
  rw [h1] at h2
  have e : ((d : Int) * 16) % 4294967296 = ((d * 2 ^ 4 % 4294967296 : Nat) : Int) := by omega
  rw [e, h2]
  omega
/-- a chunk's digits -/
theorem num_l1 {x0 c : ByteArray} {x4 : List Int} {x5 : Int} {res : List Int × Bool} (hl : (tl c).length ≤ 8) : ∀ (B A : List UInt8), tl c = A ++ B → A.all isH = true →
    (B.all isH = true → Ev (fun k => hexa_number.l0 k x0 (x4 ++ [((hval (tl c) 0 : Nat) : Int)]) (wrap64 (x5 - 8))) res) → (B.all isH = false → res = ([], false)) → x4.length < 1000000000 →
    Ev (fun k => hexa_number.l1 k x0 x4 x5 ((hval A 0 : Nat) : Int) c (A.length : Int)) res
  | [], A, he, hA, h1, h2, h4 => by
    have e : tl c = A := by simpa using he
    refine ev_step ?_; simp only [hexa_number.l1]
    refine ev_neg (by rw [tl_size_eq, e]; simp) (ev_pos (by simp; omega) ?_)
    rw [← e]
    exact h1 rfl
  | b :: B, A, he, hA, h1, h2, h4 => by
    have hd := dec_at he
    have hn : ((A.length : Nat) : Int).toNat = A.length := by simp
    refine ev_step ?_; simp only [hexa_number.l1]
    rw [hn]
    refine ev_pos (by rw [tl_size_eq, he]; simp) ?_
    refine Ev.bind (value_ev _) ?_
    cases hb : isH b with
    | false =>
      have h3 : (hxv (Utf8.decode c A.length).1).2 = false := by
        by_cases c1 : b.toNat < 128
        · rw [hd.1 c1]; exact hxv_not hb
        · exact hxv_big (hd.2 (by omega))
      rw [h3]
      refine ev_pos rfl ?_
      rw [h2 (by simp [hb])]
      exact Ev.now _
    | true =>
      rw [hd.1 (isH_small hb), hxv_hx hb]
      refine ev_neg (by simp) ?_
      have hlt : A.length ≤ 7 := by have := hl; rw [he] at this; simp at this; omega
      have hv := hval_lt A
      have hv2 : 16 ^ A.length ≤ 16 ^ 7 := Nat.pow_le_pow_right (by omega) hlt
      have e1 := or_hex (d := hval A 0) (v := (hx b).getD 0) (by omega) hx_lt
      have e2 : hval (A ++ [b]) 0 = 16 * hval A 0 + (hx b).getD 0 := by rw [hval_app]; rfl
      simp only
      rw [e1, ← e2]
      have e3 : ((A.length : Nat) : Int) + ((1 : Nat) : Int) = (((A ++ [b]).length : Nat) : Int) := by simp
      rw [e3]
      refine num_l1 hl B (A ++ [b]) (by rw [he]; simp) (by simp [hA, hb]) (fun h => h1 (by simp [hb, h])) (fun h => h2 (by simp [h])) h4
/-- noughts at the high end go -/
theorem num_l2 (s : ByteArray) : ∀ (n : Nat) (l : List Int), l.length = n → Dg l → n < 4611686018427387904 → Ev (fun k => hexa_number.l2 k s l) (D (V l), decide (¬ (s = (⟨#[]⟩ : ByteArray))))
  | 0, l, hn, hd, hb => by
    have : l = [] := List.eq_nil_of_length_eq_zero hn
    subst this
    refine ev_step (ev_const ?_)
    simp [hexa_number.l2, D_zero]
  | n + 1, l, hn, hd, hb => by
    rcases List.eq_nil_or_concat l with rfl | ⟨a, d, rfl⟩
    · simp at hn
    rw [List.concat_eq_append] at hn hd ⊢
    have hl : (a ++ [d]).length = n + 1 := hn
    have ha : a.length = n := by simpa using hn
    refine ev_step ?_
    simp only [hexa_number.l2, hl, w64p (n := n) (by omega)]
    refine ev_pos (by omega) (ev_pos (by omega) (ev_pos (by omega) ?_))
    rw [rd_app (by omega)]
    by_cases h0 : d = 0
    · subst h0
      refine ev_pos rfl (ev_pos (by omega) (ev_pos (by omega) ?_))
      rw [V_snoc_zero]
      have : (a ++ [(0 : Int)]).take (n : Int).toNat = a := by simp [← ha]
      rw [this]
      exact num_l2 s n a ha hd.left (by omega)
    · refine ev_neg h0 ?_
      exact ev_eq (Ev.now _) (by rw [show D (V (a ++ [d])) = a ++ [d] from Nm_snoc hd.left (by have := hd.right.head; omega) (by have := hd.right.head; omega)])
theorem pow32 (n : Nat) : (4294967296 : Nat) ^ n = 16 ^ (8 * n) := by rw [Nat.pow_mul]
theorem hv_len {l : List UInt8} (h : l.length ≤ 8) : hval l 0 < 4294967296 := by
  have h1 := hval_lt l
  have h2 : 16 ^ l.length ≤ 16 ^ 8 := Nat.pow_le_pow_right (by omega) h
  omega
theorem num_l0 {s : ByteArray} (hs : (tl s).length ≤ 100000) : ∀ (e : Nat) (done : List Int), e ≤ (tl s).length → Dg done → V done = hval ((tl s).drop e) 0 → 8 * done.length = (tl s).length - e → ((tl s).drop e).all isH = true →
    Ev (fun k => hexa_number.l0 k s done (e : Int)) (if (tl s).all isH = true then (D (hval (tl s) 0), decide (¬ (s = (⟨#[]⟩ : ByteArray)))) else ([], false)) := by
  intro e
  induction e using Nat.strongRecOn with
  | _ e ih =>
    intro done he hd hv hl ha
    refine ev_step ?_; simp only [hexa_number.l0]
    by_cases c0 : e = 0
    · subst c0
      refine ev_neg (by simp) ?_
      rw [List.drop_zero] at hv ha
      rw [if_pos ha, ← hv]
      exact num_l2 s _ done rfl hd (by omega)
    refine ev_pos (by omega) ?_
    have e1 : mx 0 (wrap64 ((e : Int) - 8)) = ((e - 8 : Nat) : Int) := by
      rw [w64 (by omega) (by omega)]; unfold mx; split <;> omega
    rw [e1]
    refine ev_pos (by omega) (ev_pos (by omega) (ev_pos (by rw [tl_size_eq]; omega) ?_))
    simp only [Int.toNat_natCast]
    have hc : tl (s.extract (e - 8) e) = ((tl s).take e).drop (e - 8) := tl_ext s _ _
    have hcl : (tl (s.extract (e - 8) e)).length ≤ 8 := by rw [hc]; simp; omega
    have hsp : (tl s).drop (e - 8) = tl (s.extract (e - 8) e) ++ (tl s).drop e := by
      rw [hc]
      have h1 : (tl s).drop (e - 8) = ((tl s).take e ++ (tl s).drop e).drop (e - 8) := by rw [List.take_append_drop]
      rw [h1, List.drop_append_of_le_length (by simp; omega)]
    have hcl2 : (tl (s.extract (e - 8) e)).length = e - (e - 8) := by rw [hc]; simp; omega
    have hall : (tl s).all isH = true → (tl (s.extract (e - 8) e)).all isH = true := by
      intro h
      rw [hc]
      rw [List.all_eq_true] at h ⊢
      exact fun x hx => h x (List.mem_of_mem_take (List.mem_of_mem_drop hx))
    refine num_l1 hcl (tl (s.extract (e - 8) e)) [] rfl rfl (fun h => ?_) (fun h => ?_) (by omega)
    · have hvv := hv_len hcl
      by_cases c8 : 8 ≤ e
      · have e2 : wrap64 ((e : Int) - 8) = ((e - 8 : Nat) : Int) := by rw [w64 (by omega) (by omega)]; omega
        rw [e2]
        refine ih (e - 8) (by omega) _ (by omega) (hd.app (Dg.cons (by omega) (by omega) Dg.nil)) ?_ (by simp; omega) ?_
        · rw [V_append, hv, hsp, hval_app, hval_acc ((tl s).drop e) (hval (tl (s.extract (e - 8) e)) 0), V_cons, V_nil, pow32, hl]
          simp only [List.length_drop, Int.toNat_natCast, Nat.mul_zero, Nat.add_zero]
          rw [Nat.mul_comm, Nat.add_comm]
        · rw [hsp, List.all_append, h, ha]; rfl
      · have e2 : wrap64 ((e : Int) - 8) = (e : Int) - 8 := w64 (by omega) (by omega)
        rw [e2]
        have e3 : e - 8 = 0 := by omega
        rw [e3, List.drop_zero] at hsp
        rw [e3] at h hvv ⊢
        refine ev_step ?_; simp only [hexa_number.l0]
        refine ev_neg (by omega) ?_
        have hA : (tl s).all isH = true := by rw [hsp, List.all_append, h, ha]; rfl
        rw [if_pos hA]
        refine ev_eq (num_l2 s _ _ rfl (hd.app (Dg.cons (by omega) (by omega) Dg.nil)) (by simp; omega)) ?_
        rw [V_append, hv, V_cons, V_nil, pow32, hl]
        have h5 : hval (tl s) 0 = hval (tl (s.extract 0 e)) 0 * 16 ^ ((tl s).length - e) + hval ((tl s).drop e) 0 := by
          conv => lhs; rw [hsp]
          rw [hval_app, hval_acc ((tl s).drop e) (hval (tl (s.extract 0 e)) 0), List.length_drop]
        rw [h5]
        simp only [Int.toNat_natCast, Nat.mul_zero, Nat.add_zero]
        rw [Nat.mul_comm, Nat.add_comm]
    · rw [if_neg]
      intro h2
      rw [hall h2] at h
      cases h
theorem number_ev {s : ByteArray} (hs : (tl s).length ≤ 100000) : Ev (fun k => hexa_number.f k s) (if (tl s).all isH = true then (D (hval (tl s) 0), decide (¬ (s = (⟨#[]⟩ : ByteArray)))) else ([], false)) := by
  have h := num_l0 hs (tl s).length [] (by omega) Dg.nil (by simp [hval]) (by simp) (by simp)
  rw [tl_len] at h
  exact h
/-! ### texts cut -/
theorem prefix_eq (s p : ByteArray) : istringslite_HasPrefix.f s p = some (decide ((tl s).take p.size = tl p)) := by
  unfold istringslite_HasPrefix.f
  by_cases c : (s.size : Int) ≥ (p.size : Int)
  · rw [if_pos c, if_pos (by omega), if_pos (by omega)]
    congr 1
    rw [decide_eq_decide, Int.toNat_natCast, ← tl_inj, tl_ext, List.drop_zero]
  · rw [if_neg c]
    symm
    congr 1
    refine decide_eq_false fun h => ?_
    have := congrArg List.length h
    rw [List.length_take, tl_len, tl_len] at this
    omega
theorem sPrefix_eq (s p : ByteArray) : strings_HasPrefix.f s p = some (decide ((tl s).take p.size = tl p)) := by
  unfold strings_HasPrefix.f
  rw [prefix_eq]
  rfl
theorem cutPrefix_eq (s p : ByteArray) : strings_CutPrefix.f s p = some (if (tl s).take p.size = tl p then (s.extract p.size s.size, true) else (s, false)) := by
  unfold strings_CutPrefix.f istringslite_CutPrefix.f
  rw [prefix_eq]
  by_cases c : (tl s).take p.size = tl p
  · have hl := congrArg List.length c
    rw [List.length_take, tl_len, tl_len] at hl
    rw [if_pos c, decide_eq_true c]
    simp only [Option.bind_some, Bool.not_true, Bool.false_eq_true, if_false]
    rw [if_pos (by omega), if_pos (by omega)]
    simp
  · rw [if_neg c, decide_eq_false c]
    simp
theorem indexByte_spec (l : List UInt8) (c : UInt8) : (Lib.indexByte l c = -1 ∧ c ∉ l) ∨ ∃ A B, l = A ++ c :: B ∧ c ∉ A ∧ Lib.indexByte l c = (A.length : Int) := by
  induction l with
  | nil => exact .inl ⟨rfl, by simp⟩
  | cons b l ih =>
    unfold Lib.indexByte
    by_cases h : b = c
    · subst h
      exact .inr ⟨[], l, rfl, by simp, by simp⟩
    · have hb : (b == c) = false := by simpa using h
      rw [hb]
      rcases ih with ⟨h1, h2⟩ | ⟨A, B, h1, h2, h3⟩
      · exact .inl ⟨by simp [h1], by simp [h2, Ne.symm h]⟩
      · refine .inr ⟨b :: A, B, by rw [h1]; rfl, by simp [h2, Ne.symm h], ?_⟩
        have : (Lib.indexByte l c == -1) = false := by rw [h3]; simp
        rw [this, h3]
        simp
theorem split_ev {s : ByteArray} {c : UInt8} (hs : s.size < 1000000) : ∃ a b ok, Ev (fun k => hexa_split.f k s (c.toNat : Int)) (a, b, ok) ∧
    ((ok = true ∧ tl s = tl a ++ c :: tl b ∧ c ∉ tl a) ∨ (ok = false ∧ a = s ∧ b = ⟨#[]⟩ ∧ c ∉ tl s)) := by
  have ht : tl (strOf ([(c.toNat : Int)] : List Int)) = [c] := by
    rw [tl_strOf]; simp
  have hz : (strOf ([(c.toNat : Int)] : List Int)).size = 1 := by rw [tl_size_eq, ht]; rfl
  have hbt : bt (strOf ([(c.toNat : Int)] : List Int)) 0 = (c.toNat : Int) := by rw [bt_eq, ht]; rfl
  obtain ⟨i, hi⟩ : ∃ i, Lib.indexByte (tl s) c = i := ⟨_, rfl⟩
  have hf : istringslite_IndexByte.f s (c.toNat : Int) = some i := by
    unfold istringslite_IndexByte.f
    rw [Int.toNat_natCast]
    show some (Lib.indexByte (tl s) _) = _
    rw [show Nat.toUInt8 c.toNat = c from by simp, hi]
  have hx : Ev (fun k => istringslite_Index.f k s (strOf ([(c.toNat : Int)] : List Int))) i := by
    unfold istringslite_Index.f
    rw [hz]
    refine ev_neg (by simp) ?_
    refine ev_step ?_; simp only [istringslite_Index.j0]
    by_cases e : strOf ([(c.toNat : Int)] : List Int) = s
    · rw [decide_eq_true e]
      refine ev_pos rfl ?_
      have : i = 0 := by rw [← hi, ← e, ht]; simp [Lib.indexByte]
      rw [this]
      exact Ev.now _
    · rw [decide_eq_false e]
      refine ev_neg (by simp) (ev_pos rfl ?_)
      rw [hz, hbt, hf]
      exact ev_pos (by omega) (Ev.now _)
  unfold hexa_split.f strings_Cut.f istringslite_Cut.f
  rw [hz]
  rcases indexByte_spec (tl s) c with ⟨h1, h2⟩ | ⟨A, B, h1, h2, h3⟩
  · refine ⟨s, ⟨#[]⟩, false, ?_, .inr ⟨rfl, rfl, rfl, h2⟩⟩
    refine Ev.bind (a := (s, (⟨#[]⟩ : ByteArray), false)) (Ev.bind (a := (s, (⟨#[]⟩ : ByteArray), false)) (Ev.bind hx ?_) (Ev.now _)) (Ev.now _)
    exact ev_neg (by omega) (Ev.now _)
  · have hl : (tl s).length = A.length + (B.length + 1) := by rw [h1]; simp
    rw [tl_len] at hl
    have hi' : i = (A.length : Int) := by rw [← hi, h3]
    refine ⟨s.extract 0 A.length, s.extract (A.length + 1) s.size, true, ?_, .inl ⟨rfl, ?_, ?_⟩⟩
    · refine Ev.bind (a := (s.extract 0 A.length, s.extract (A.length + 1) s.size, true)) (Ev.bind (a := (s.extract 0 A.length, s.extract (A.length + 1) s.size, true)) (Ev.bind hx ?_) (Ev.now _)) (Ev.now _)
      have e1 : wrap64 (i + ((1 : Nat) : Int)) = ((A.length + 1 : Nat) : Int) := by rw [w64 (by omega) (by omega), hi']; omega
      rw [e1]
      refine ev_pos (by omega) (ev_pos (by omega) (ev_pos (by omega) (ev_pos (by omega) (ev_pos (by omega) ?_))))
      rw [hi', Int.toNat_natCast, Int.toNat_natCast]
      exact Ev.now _
    · rw [tl_ext, tl_ext, h1, List.drop_zero, List.take_append_of_le_length (Nat.le_refl _), List.take_length]
      have h5 : (A ++ c :: B).take s.size = A ++ c :: B := List.take_of_length_le (by simp; omega)
      rw [h5, List.drop_append]
      simp
    · rw [tl_ext, h1, List.drop_zero, List.take_append_of_le_length (Nat.le_refl _), List.take_length]
      exact h2
end Go.Proofs.YtbcjdlljmhfhdaaDoor.Eng.K

/- The program's reading of a text to the base 16: exponents, the whole text, the word. -/
set_option linter.unusedVariables false
set_option linter.unusedSimpArgs false
namespace Go.Proofs.YtbcjdlljmhfhdaaDoor.Eng.K
open Go.RowKit Go.Proofs Go.Proofs.YtbcjdlljmhfhdaaDoor.Eng
theorem dval_app (a b : List UInt8) (n : Nat) : dval (a ++ b) n = dval b (dval a n) := by unfold dval; rw [List.foldl_append]
theorem dval_b {l : List UInt8} (h : l.all isD = true) (hl : l.length ≤ 6) : dval l 0 < 1000000 := by
  have h1 := dval_lt l h 0
  have h2 : 10 ^ l.length ≤ 10 ^ 6 := Nat.pow_le_pow_right (by omega) hl
  omega
theorem exp_l0 {c : ByteArray} (neg : Bool) (hl : (tl c).length ≤ 6) : ∀ (B A : List UInt8), tl c = A ++ B → A.all isD = true →
    Ev (fun k => hexa_exponent.l0 k neg ((dval A 0 : Nat) : Int) c (A.length : Int)) (if B.all isD = true then (if neg = true then -((dval (tl c) 0 : Nat) : Int) else ((dval (tl c) 0 : Nat) : Int), true) else (0, false))
  | [], A, he, hA => by
    have e : tl c = A := by simpa using he
    have hb := dval_b hA (by rw [← e]; exact hl)
    refine ev_step ?_; simp only [hexa_exponent.l0]
    refine ev_neg (by rw [tl_size_eq, e]; simp) ?_
    rw [e]
    cases neg with
    | true => exact ev_pos rfl (ev_eq (Ev.now _) (by rw [w64 (by omega) (by omega)]; rfl))
    | false => exact ev_neg (by simp) (ev_eq (Ev.now _) rfl)
  | b :: B, A, he, hA => by
    have hd := dec_at he
    have hn : ((A.length : Nat) : Int).toNat = A.length := by simp
    refine ev_step ?_; simp only [hexa_exponent.l0]
    rw [hn]
    refine ev_pos (by rw [tl_size_eq, he]; simp) ?_
    cases hb : isD b with
    | false =>
      rw [if_neg (by simp [hb])]
      simp only [isD, decide_eq_false_iff_not] at hb
      by_cases c1 : b.toNat < 128
      · rw [hd.1 c1]
        by_cases c2 : b.toNat < 48
        · exact ev_pos (by simp only; omega) (Ev.now _)
        · exact ev_neg (by simp only; omega) (ev_pos (by simp only; omega) (Ev.now _))
      · have := hd.2 (by omega)
        exact ev_neg (by omega) (ev_pos (by omega) (Ev.now _))
    | true =>
      have hb' := hb
      simp only [isD, decide_eq_true_eq] at hb
      rw [hd.1 (by omega)]
      refine ev_neg (by simp only; omega) (ev_neg (by simp only; omega) ?_)
      have hlt : A.length ≤ 6 := by have := hl; rw [he] at this; simp at this; omega
      have hv := dval_b hA hlt
      have e2 : dval (A ++ [b]) 0 = 10 * dval A 0 + (b.toNat - 48) := by rw [dval_app]; rfl
      have e1 : wrap64 (wrap64 (10 * ((dval A 0 : Nat) : Int)) + wrap64 (IntKind.i32.wrap ((b.toNat : Int) - 48))) = ((dval (A ++ [b]) 0 : Nat) : Int) := by
        have h1 : IntKind.i32.wrap ((b.toNat : Int) - 48) = (b.toNat : Int) - 48 := by simp [IntKind.wrap, IntKind.bits, IntKind.signed]; omega
        rw [h1, w64 (n := 10 * ((dval A 0 : Nat) : Int)) (by omega) (by omega), w64 (n := (b.toNat : Int) - 48) (by omega) (by omega), w64 (by omega) (by omega), e2]
        omega
      simp only
      rw [e1]
      have e3 : ((A.length : Nat) : Int) + ((1 : Nat) : Int) = (((A ++ [b]).length : Nat) : Int) := by simp
      rw [e3]
      refine ev_eq (exp_l0 neg hl B (A ++ [b]) (by rw [he]; simp) (by simp [hA, hb'])) ?_
      simp [hb']
theorem exp_j1 {s : ByteArray} (neg : Bool) (hs : s.size < 1000000) : Ev (fun k => hexa_exponent.j1 k s neg)
    (if tl s ≠ [] ∧ (tl s).length ≤ 6 ∧ (tl s).all isD = true then (if neg = true then -((dval (tl s) 0 : Nat) : Int) else ((dval (tl s) 0 : Nat) : Int), true) else (0, false)) := by
  refine ev_step ?_; simp only [hexa_exponent.j1]
  by_cases c0 : s = (⟨#[]⟩ : ByteArray)
  · refine ev_pos c0 ?_
    rw [if_neg (by rw [tl_nil.2 c0]; simp)]
    exact Ev.now _
  refine ev_neg c0 ?_
  by_cases c1 : (tl s).length ≤ 6
  · refine ev_neg (by rw [tl_size_eq]; omega) ?_
    refine ev_eq (exp_l0 neg c1 (tl s) [] rfl rfl) ?_
    by_cases c2 : (tl s).all isD = true
    · rw [if_pos c2, if_pos (show tl s ≠ [] ∧ (tl s).length ≤ 6 ∧ (tl s).all isD = true from ⟨fun h => c0 (tl_nil.1 h), c1, c2⟩)]
    · rw [if_neg c2, if_neg (fun h => c2 h.2.2)]
  · refine ev_pos (by rw [tl_size_eq]; omega) ?_
    rw [if_neg (fun h => c1 h.2.1)]
    exact Ev.now _
theorem expS_eq (E : List UInt8) : (if expOk E = true then (expV E, true) else ((0 : Int), false)) = if expR E ≠ [] ∧ (expR E).length ≤ 6 ∧ (expR E).all isD = true then (if expN E = true then -((dval (expR E) 0 : Nat) : Int) else ((dval (expR E) 0 : Nat) : Int), true) else (0, false) := by
  unfold expOk expV
  by_cases c : expR E ≠ [] ∧ (expR E).length ≤ 6 ∧ (expR E).all isD = true
  · rw [if_pos c, if_pos (by simp only [Bool.and_eq_true, decide_eq_true_eq]; exact ⟨⟨c.1, c.2.1⟩, c.2.2⟩)]
  · rw [if_neg c, if_neg]
    simp only [Bool.and_eq_true, decide_eq_true_eq]
    exact fun h => c ⟨h.1.1, h.1.2, h.2⟩
theorem take1 {l : List UInt8} {b : UInt8} : l.take 1 = [b] ↔ ∃ r, l = b :: r := by
  cases l with
  | nil => simp
  | cons a l => simp
theorem exp_plain {l : List UInt8} (h1 : ¬ l.take 1 = [45]) (h2 : ¬ l.take 1 = [43]) : expN l = false ∧ expR l = l := by
  cases l with
  | nil => exact ⟨rfl, rfl⟩
  | cons a l =>
    have n1 : a ≠ 45 := by rintro rfl; exact h1 rfl
    have n2 : a ≠ 43 := by rintro rfl; exact h2 rfl
    constructor
    · unfold expN; split
      · rename_i h; exact absurd (List.cons.inj h).1 n1
      · rfl
    · unfold expR; split
      · rename_i h; exact absurd (List.cons.inj h).1 n1
      · rename_i h; exact absurd (List.cons.inj h).1 n2
      · rfl
theorem tl_rest {s : ByteArray} {a : UInt8} {r : List UInt8} (h : tl s = a :: r) : tl (s.extract 1 s.size) = r := by
  rw [tl_ext, tl_size_eq, List.take_length, h]; rfl
theorem exponent_ev {s : ByteArray} (hs : s.size < 1000000) : Ev (fun k => hexa_exponent.f k s) (if expOk (tl s) = true then (expV (tl s), true) else (0, false)) := by
  rw [expS_eq]
  unfold hexa_exponent.f
  rw [sPrefix_eq, sPrefix_eq]
  show Ev _ _
  simp only [Option.bind_some]
  by_cases c1 : (tl s).take 1 = [45]
  · obtain ⟨r, hr⟩ := take1.1 c1
    have hz : 1 ≤ s.size := by rw [tl_size_eq, hr]; simp
    have hx := tl_rest hr
    have hb : (s.extract 1 s.size).size < 1000000 := by rw [tl_size_eq, hx]; rw [tl_size_eq, hr] at hs; simp at hs; omega
    have hj := exp_j1 true hb
    rw [hx] at hj
    have ht : decide ((tl s).take (⟨#[45]⟩ : ByteArray).size = tl (⟨#[45]⟩ : ByteArray)) = true := decide_eq_true c1
    refine ev_pos ht (ev_pos (by omega) (ev_pos (by omega) ?_))
    rw [ht, hr]
    exact hj
  have ht : decide ((tl s).take (⟨#[45]⟩ : ByteArray).size = tl (⟨#[45]⟩ : ByteArray)) = false := decide_eq_false c1
  refine ev_neg (by rw [ht]; simp) ?_
  rw [ht]
  by_cases c2 : (tl s).take 1 = [43]
  · obtain ⟨r, hr⟩ := take1.1 c2
    have hz : 1 ≤ s.size := by rw [tl_size_eq, hr]; simp
    have hx := tl_rest hr
    have hb : (s.extract 1 s.size).size < 1000000 := by rw [tl_size_eq, hx]; rw [tl_size_eq, hr] at hs; simp at hs; omega
    have hj := exp_j1 false hb
    rw [hx] at hj
    refine ev_pos (decide_eq_true c2) (ev_pos (by omega) (ev_pos (by omega) ?_))
    rw [hr]
    exact hj
  refine ev_neg (by rw [show decide ((tl s).take (⟨#[43]⟩ : ByteArray).size = tl (⟨#[43]⟩ : ByteArray)) = false from decide_eq_false c2]; simp) ?_
  obtain ⟨p1, p2⟩ := exp_plain c1 c2
  rw [p1, p2]
  exact exp_j1 false hs
/-! ### the whole text -/
theorem all_app {p : UInt8 → Bool} {a b : List UInt8} : (a ++ b).all p = true ↔ a.all p = true ∧ b.all p = true := by rw [List.all_append, Bool.and_eq_true]
theorem not_mem_of_all {l : List UInt8} {c : UInt8} (h : l.all isH = true) (hc : isH c = false) : c ∉ l := by
  intro hm
  rw [List.all_eq_true] at h
  rw [h c hm] at hc
  cases hc
theorem first_eq {A B A' B' : List UInt8} {c : UInt8} (h : A ++ c :: B = A' ++ c :: B') (h1 : c ∉ A) (h2 : c ∉ A') : A = A' ∧ B = B' := by
  induction A generalizing A' with
  | nil =>
    cases A' with
    | nil => exact ⟨rfl, (List.cons.inj h).2⟩
    | cons a A' => exact absurd (List.mem_cons.2 (.inl (List.cons.inj h).1)) h2
  | cons a A ih =>
    cases A' with
    | nil => exact absurd (List.mem_cons.2 (.inl (List.cons.inj h).1.symm)) h1
    | cons a' A' =>
      obtain ⟨e1, e2⟩ := List.cons.inj h
      obtain ⟨r1, r2⟩ := ih e2 (fun x => h1 (List.mem_cons.2 (.inr x))) (fun x => h2 (List.mem_cons.2 (.inr x)))
      exact ⟨by rw [e1, r1], r2⟩
theorem decide_not_nil {s : ByteArray} : decide (¬ (s = (⟨#[]⟩ : ByteArray))) = decide (tl s ≠ []) := by
  rw [decide_eq_decide]
  exact not_congr tl_nil.symm
theorem read_ev {s : ByteArray} (hs : s.size ≤ 1200) : ∃ mag n ok, Ev (fun k => hexa_read.f k s) (mag, n, ok) ∧
    ((ok = true ∧ (tl s).take 2 = [48, 120] ∧ ∃ x, readS ((tl s).drop 2) = some x ∧ mag = D x.1 ∧ n = x.2) ∨ (ok = false ∧ ((tl s).take 2 = [48, 120] → readS ((tl s).drop 2) = none))) := by
  unfold hexa_read.f
  rw [cutPrefix_eq]
  simp only [Option.bind_some]
  by_cases c0 : (tl s).take 2 = [48, 120]
  rotate_left
  · refine ⟨[], 0, false, ?_, .inr ⟨rfl, fun h => absurd h c0⟩⟩
    rw [if_neg (show ¬ (tl s).take (⟨#[48, 120]⟩ : ByteArray).size = tl (⟨#[48, 120]⟩ : ByteArray) from c0)]
    exact ev_pos rfl (Ev.now _)
  rw [if_pos (show (tl s).take (⟨#[48, 120]⟩ : ByteArray).size = tl (⟨#[48, 120]⟩ : ByteArray) from c0)]
  obtain ⟨u, hu⟩ : ∃ u, u = s.extract (⟨#[48, 120]⟩ : ByteArray).size s.size := ⟨_, rfl⟩
  have htu : tl u = (tl s).drop 2 := by
    rw [hu, tl_ext, tl_size_eq s, List.take_length]; rfl
  have hul : (tl u).length ≤ 1200 := by rw [htu, List.length_drop, tl_len]; omega
  rw [← htu, ← hu]
  simp only
  obtain ⟨a, b, ok, hsp, hcase⟩ := split_ev (s := u) (c := 112) (by rw [tl_size_eq]; omega)
  have hno : ∀ {X : Nat → Option (List Int × Int × Bool)}, Ev X ([], 0, false) → (∀ W P E pt, ¬ Rd (tl u) W P E pt) → ∃ mag n ok, Ev X (mag, n, ok) ∧
      ((ok = true ∧ (tl s).take 2 = [48, 120] ∧ ∃ x, readS (tl u) = some x ∧ mag = D x.1 ∧ n = x.2) ∨ (ok = false ∧ ((tl s).take 2 = [48, 120] → readS (tl u) = none))) :=
    fun h1 h2 => ⟨_, _, _, h1, .inr ⟨rfl, fun _ => readS_none h2⟩⟩
  have hsp' : Ev (fun k => hexa_split.f k u 112) (a, b, ok) := hsp
  rcases hcase with ⟨rfl, h1, h2⟩ | ⟨rfl, rfl, rfl, h2⟩
  rotate_left
  · refine hno (ev_neg (by simp) (Ev.bind hsp' (ev_pos rfl (Ev.now _)))) ?_
    rintro W P E pt ⟨hl, -, -, -, -, -⟩
    refine h2 ?_
    rw [hl]
    simp
  have hal : (tl a).length + (tl b).length + 1 = (tl u).length := by rw [h1]; simp; omega
  have hE := exponent_ev (s := b) (by rw [tl_size_eq]; omega)
  -- where a reading would part
  have hpart : ∀ W P E pt, Rd (tl u) W P E pt → tl a = W ++ (if pt = true then 46 :: P else []) ∧ tl b = E := by
    rintro W P E pt ⟨hl, -, hw, hp, -, -⟩
    rw [h1] at hl
    have n1 : (112 : UInt8) ∉ W ++ (if pt = true then 46 :: P else []) := by
      intro hm
      rcases List.mem_append.1 hm with hm | hm
      · exact not_mem_of_all hw hx112 hm
      · split at hm
        · rcases List.mem_cons.1 hm with hm | hm
          · cases hm
          · exact not_mem_of_all hp hx112 hm
        · cases hm
    exact first_eq hl h2 n1
  by_cases ce : expOk (tl b) = true
  rotate_left
  · rw [if_neg ce] at hE
    refine hno (ev_neg (by simp) (Ev.bind hsp' (ev_neg (by simp) (Ev.bind hE (ev_pos rfl (Ev.now _)))))) ?_
    intro W P E pt h
    have := (hpart _ _ _ _ h).2
    rw [this] at ce
    exact ce h.e
  rw [if_pos ce] at hE
  obtain ⟨a2, b2, pt, hsq, hcase2⟩ := split_ev (s := a) (c := 46) (by rw [tl_size_eq]; omega)
  have hsq' : Ev (fun k => hexa_split.f k a 46) (a2, b2, pt) := hsq
  have hA2 : tl a = tl a2 ++ (if pt = true then 46 :: tl b2 else []) ∧ (pt = false → tl b2 = []) ∧ (46 : UInt8) ∉ tl a2 := by
    rcases hcase2 with ⟨rfl, k1, k2⟩ | ⟨rfl, rfl, rfl, k2⟩
    · exact ⟨by rw [if_pos rfl]; exact k1, (fun h => by cases h), k2⟩
    · exact ⟨by simp, fun _ => rfl, k2⟩
  obtain ⟨k1, k2, k3⟩ := hA2
  have hpart2 : ∀ W P E pt', Rd (tl u) W P E pt' → W = tl a2 ∧ P = tl b2 ∧ pt' = pt ∧ E = tl b := by
    intro W P E pt' h
    obtain ⟨q1, q2⟩ := hpart _ _ _ _ h
    rw [k1] at q1
    have n46 := not_mem_of_all h.hw hx46
    have hp := h.p
    cases pt' with
    | true =>
      cases pt with
      | true =>
        obtain ⟨r1, r2⟩ := first_eq q1 k3 n46
        exact ⟨r1.symm, r2.symm, rfl, q2.symm⟩
      | false =>
        simp only [Bool.false_eq_true, if_false, if_true, List.append_nil] at q1
        rw [q1] at k3
        simp at k3
    | false =>
      simp only [Bool.false_eq_true, if_false, List.append_nil] at q1 hp
      cases pt with
      | true =>
        exfalso
        refine n46 ?_
        rw [← q1]
        simp
      | false =>
        simp only [Bool.false_eq_true, if_false, List.append_nil] at q1
        exact ⟨q1.symm, by rw [hp, k2 rfl], rfl, q2.symm⟩
  have hgo : ∀ {r : List Int × Int × Bool}, Ev (fun k => (hexa_split.f k a 46).bind fun t290 => (if t290.1 = (⟨#[]⟩ : ByteArray) then (some (([] : List Int), 0, false)) else (if t290.2.2 = true then (if t290.2.1 = (⟨#[]⟩ : ByteArray) then (some (([] : List Int), 0, false)) else (if t290.1.size + t290.2.1.size < 35184372088832 then ((hexa_number.f k (t290.1 ++ t290.2.1)).bind fun t291 => (some (t291.1, wrap64 (expV (tl b) - (wrap64 (4 * (t290.2.1.size : Int)))), t291.2))) else (none))) else (if t290.1.size + t290.2.1.size < 35184372088832 then ((hexa_number.f k (t290.1 ++ t290.2.1)).bind fun t292 => (some (t292.1, wrap64 (expV (tl b) - (wrap64 (4 * (t290.2.1.size : Int)))), t292.2))) else (none))))) r →
      Ev (fun k => if (!true) = true then (some (([] : List Int), (0 : Int), false)) else ((hexa_split.f k u 112).bind fun t288 => (if (!t288.2.2) = true then (some (([] : List Int), 0, false)) else ((hexa_exponent.f k t288.2.1).bind fun t289 => (if (!t289.2) = true then (some (([] : List Int), 0, false)) else ((hexa_split.f k t288.1 46).bind fun t290 => (if t290.1 = (⟨#[]⟩ : ByteArray) then (some (([] : List Int), 0, false)) else (if t290.2.2 = true then (if t290.2.1 = (⟨#[]⟩ : ByteArray) then (some (([] : List Int), 0, false)) else (if t290.1.size + t290.2.1.size < 35184372088832 then ((hexa_number.f k (t290.1 ++ t290.2.1)).bind fun t291 => (some (t291.1, wrap64 (t289.1 - (wrap64 (4 * (t290.2.1.size : Int)))), t291.2))) else (none))) else (if t290.1.size + t290.2.1.size < 35184372088832 then ((hexa_number.f k (t290.1 ++ t290.2.1)).bind fun t292 => (some (t292.1, wrap64 (t289.1 - (wrap64 (4 * (t290.2.1.size : Int)))), t292.2))) else (none)))))))))) r :=
    fun h => ev_neg (by simp) (Ev.bind hsp' (ev_neg (by simp) (Ev.bind hE (ev_neg (by simp) h))))
  by_cases cw : a2 = (⟨#[]⟩ : ByteArray)
  · refine hno (hgo (Ev.bind hsq' (ev_pos cw (Ev.now _)))) ?_
    intro W P E pt' h
    have := (hpart2 _ _ _ _ h).1
    exact h.w (by rw [this]; exact tl_nil.2 cw)
  by_cases cp : pt = true ∧ b2 = (⟨#[]⟩ : ByteArray)
  · refine hno (hgo (Ev.bind hsq' (ev_neg cw (ev_pos cp.1 (ev_pos cp.2 (Ev.now _)))))) ?_
    intro W P E pt' h
    obtain ⟨-, q, rfl, -⟩ := hpart2 _ _ _ _ h
    have hp := h.p
    rw [if_pos cp.1, q] at hp
    exact hp (tl_nil.2 cp.2)
  have hlen : (tl a2).length + (tl b2).length ≤ 1200 := by
    have := congrArg List.length k1
    rw [List.length_append] at this
    cases pt with
    | true => simp at this; omega
    | false => rw [k2 rfl]; simp at this ⊢; omega
  have hN := number_ev (s := a2 ++ b2) (by rw [tl_app, List.length_append]; omega)
  rw [decide_not_nil, tl_app, decide_eq_true (show tl a2 ++ tl b2 ≠ [] from fun h => cw (tl_nil.1 (List.append_eq_nil_iff.1 h).1))] at hN
  have hb := expV_b ce
  have hw : wrap64 (expV (tl b) - (wrap64 (4 * (b2.size : Int)))) = expV (tl b) - 4 * ((tl b2).length : Int) := by
    rw [tl_size_eq, w64 (n := 4 * ((tl b2).length : Int)) (by omega) (by omega), w64 (by omega) (by omega)]
  have hfin : ∀ {x : List Int × Bool}, Ev (fun k => hexa_number.f k (a2 ++ b2)) x → Ev (fun k => if (!true) = true then (some (([] : List Int), (0 : Int), false)) else ((hexa_split.f k u 112).bind fun t288 => (if (!t288.2.2) = true then (some (([] : List Int), 0, false)) else ((hexa_exponent.f k t288.2.1).bind fun t289 => (if (!t289.2) = true then (some (([] : List Int), 0, false)) else ((hexa_split.f k t288.1 46).bind fun t290 => (if t290.1 = (⟨#[]⟩ : ByteArray) then (some (([] : List Int), 0, false)) else (if t290.2.2 = true then (if t290.2.1 = (⟨#[]⟩ : ByteArray) then (some (([] : List Int), 0, false)) else (if t290.1.size + t290.2.1.size < 35184372088832 then ((hexa_number.f k (t290.1 ++ t290.2.1)).bind fun t291 => (some (t291.1, wrap64 (t289.1 - (wrap64 (4 * (t290.2.1.size : Int)))), t291.2))) else (none))) else (if t290.1.size + t290.2.1.size < 35184372088832 then ((hexa_number.f k (t290.1 ++ t290.2.1)).bind fun t292 => (some (t292.1, wrap64 (t289.1 - (wrap64 (4 * (t290.2.1.size : Int)))), t292.2))) else (none)))))))))) (x.1, expV (tl b) - 4 * ((tl b2).length : Int), x.2) := by
    intro x hx
    refine hgo (Ev.bind hsq' (ev_neg cw ?_))
    have hz : a2.size + b2.size < 35184372088832 := by rw [tl_size_eq, tl_size_eq b2]; omega
    cases pt with
    | true =>
      refine ev_pos rfl (ev_neg (fun h => cp ⟨rfl, h⟩) (ev_pos hz (Ev.bind hx ?_)))
      simp only
      rw [hw]
      exact Ev.now _
    | false =>
      refine ev_neg (by simp) (ev_pos hz (Ev.bind hx ?_))
      simp only
      rw [hw]
      exact Ev.now _
  by_cases ch : (tl a2 ++ tl b2).all isH = true
  · rw [if_pos ch] at hN
    refine ⟨_, _, _, hfin hN, .inl ⟨rfl, c0, _, readS_of (W := tl a2) (P := tl b2) (E := tl b) (pt := pt) ⟨?_, ?_, (all_app.1 ch).1, (all_app.1 ch).2, ?_, ce⟩, rfl, rfl⟩⟩
    · rw [h1, k1]
    · exact fun h => cw (tl_nil.1 h)
    · cases pt with
      | true => rw [if_pos rfl]; exact fun h => cp ⟨rfl, tl_nil.1 h⟩
      | false => rw [if_neg (by simp)]; exact k2 rfl
  · rw [if_neg ch] at hN
    refine ⟨_, _, _, hfin hN, .inr ⟨rfl, fun _ => readS_none ?_⟩⟩
    intro W P E pt' h
    obtain ⟨rfl, rfl, -, -⟩ := hpart2 _ _ _ _ h
    exact ch (all_app.2 ⟨h.hw, h.hp⟩)
end Go.Proofs.YtbcjdlljmhfhdaaDoor.Eng.K

/- The word that a text to the base 16 says: the program and the document. -/
set_option linter.unusedVariables false
set_option linter.unusedSimpArgs false
namespace Go.Proofs.YtbcjdlljmhfhdaaDoor.Eng.K
open Go.RowKit Go.Proofs Go.Proofs.YtbcjdlljmhfhdaaDoor.Eng
theorem bl_hex {l : List UInt8} (h : l.length ≤ 1200) : bl (hval l 0) ≤ 4800 := by
  obtain ⟨B, hB⟩ : ∃ B, B = 4800 := ⟨_, rfl⟩
  rw [← hB]
  refine bl_le_of_lt ?_
  have h1 := hval_lt l
  have h2 : (16 : Nat) ^ l.length = 2 ^ (4 * l.length) := by rw [Nat.pow_mul]
  have h3 : 2 ^ (4 * l.length) ≤ 2 ^ B := Nat.pow_le_pow_right (by omega) (by omega)
  rw [h2] at h1
  exact Nat.lt_of_lt_of_le h1 h3
theorem readS_b {l : List UInt8} {x : Nat × Int} (hl : l.length ≤ 1200) (h : readS l = some x) : bl x.1 ≤ 4800 ∧ -1010000 ≤ x.2 ∧ x.2 ≤ 1010000 := by
  obtain ⟨W, P, E, pt, hr, rfl⟩ := readS_some h
  have hb := expV_b hr.e
  have hlen := congrArg List.length hr.l
  rw [List.length_append, List.length_append] at hlen
  have hP : P.length ≤ (if pt = true then 46 :: P else []).length := by
    have hp := hr.p
    cases pt with
    | true => simp
    | false => simp at hp; simp [hp]
  refine ⟨bl_hex (by rw [List.length_append]; omega), ?_, ?_⟩ <;> simp only <;> omega
theorem D_bl {n : Nat} (h : bl n ≤ 4800) : (D n).length ≤ 150 := by
  obtain ⟨B, hB⟩ : ∃ B, B = 150 := ⟨_, rfl⟩
  rw [← hB]
  refine D_lt (Nat.lt_of_lt_of_le (lt_bl n) ?_)
  have e : (4294967296 : Nat) ^ B = 2 ^ (32 * B) := by rw [Nat.pow_mul]
  rw [e]
  exact Nat.pow_le_pow_right (by omega) (by omega)
theorem cutMinus (s : ByteArray) : ∃ s', strings_CutPrefix.f s (⟨#[45]⟩ : ByteArray) = some (s', negT (tl s)) ∧ tl s' = bodyT (tl s) := by
  rw [cutPrefix_eq]
  cases hl : tl s with
  | nil => exact ⟨s, by simp [negT, tl], by rw [hl]; rfl⟩
  | cons a r =>
    by_cases c : a = 45
    · subst c
      refine ⟨s.extract 1 s.size, ?_, tl_rest hl⟩
      rw [if_pos (show (45 :: r).take (⟨#[45]⟩ : ByteArray).size = tl (⟨#[45]⟩ : ByteArray) from rfl)]
      rfl
    · refine ⟨s, ?_, ?_⟩
      · rw [if_neg (show ¬ (a :: r).take (⟨#[45]⟩ : ByteArray).size = tl (⟨#[45]⟩ : ByteArray) from fun h => c (List.cons.inj h).1)]
        congr 2
        unfold negT; split
        · rename_i h; exact absurd (List.cons.inj h).1 c
        · rfl
      · rw [hl]
        unfold bodyT; split
        · rename_i h; exact absurd (List.cons.inj h).1 c
        · rfl
theorem body_len (l : List UInt8) : (bodyT l).length ≤ l.length := by
  unfold bodyT; split <;> simp
theorem mg_hex {s : Bool} {n : Nat} {e : Int} (hb : bl n ≤ 4800) (h1 : -1010000 ≤ e) (h2 : e ≤ 1010000) : Mg (sv s n) e := by
  have h : bl (sv s n).natAbs ≤ 4800 := by rw [sv_abs]; exact hb
  exact ⟨by omega, by omega, by omega⟩
theorem Parse_ev {f m : Int} (h : isF f) (hm : isM m) (s : ByteArray) : Ev (fun k => hexa_Parse.f k f m s) (hexS f m (tl s)) := by
  unfold hexa_Parse.f hexS
  refine Ev.bind (Over_ev h hm false) (ev_neg (by simp) ?_)
  by_cases c0 : 1200 < (tl s).length
  · rw [if_pos c0]
    exact ev_pos (by rw [tl_size_eq]; omega) (Ev.now _)
  rw [if_neg c0]
  refine ev_neg (by rw [tl_size_eq]; omega) ?_
  by_cases c1 : s = (⟨#[110, 97, 110]⟩ : ByteArray)
  · rw [if_pos (by rw [c1]; rfl)]
    exact ev_pos c1 (Ev.bind (word_None_ev h) (Ev.now _))
  rw [if_neg (fun h => c1 (tl_inj.1 (by rw [h]; rfl)))]
  refine ev_neg c1 ?_
  obtain ⟨s', hs, ht⟩ := cutMinus s
  refine ev_bind hs ?_
  have hbl := body_len (tl s)
  unfold hexB
  by_cases c2 : s' = (⟨#[105, 110, 102]⟩ : ByteArray)
  · rw [if_pos (by rw [← ht, c2]; rfl)]
    exact ev_pos c2 (Ev.bind (word_Inf_ev h _) (Ev.now _))
  rw [if_neg (fun h => c2 (tl_inj.1 (by rw [ht, h]; rfl)))]
  refine ev_neg c2 ?_
  have hz : s'.size ≤ 1200 := by rw [tl_size_eq, ht]; omega
  obtain ⟨mag, n, ok, hr, hc⟩ := read_ev hz
  rw [ht] at hc
  refine Ev.bind hr ?_
  rcases hc with ⟨rfl, h2, x, hx, rfl, rfl⟩ | ⟨rfl, h2⟩
  · rw [if_pos h2, hx]
    refine ev_neg (by simp) ?_
    obtain ⟨b1, b2, b3⟩ := readS_b (by rw [List.length_drop]; omega) hx
    show Ev _ (hexN f m (negT (tl s)) x)
    unfold hexN
    by_cases c3 : x.1 = 0
    · rw [if_pos c3]
      exact ev_pos (by simp only; rw [c3, D_zero]; rfl) (Ev.bind (word_Zero_ev h _) (Ev.now _))
    rw [if_neg c3]
    have hlD := D_bl b1
    refine ev_neg (fun h => c3 (D_inj (by rw [D_zero]; exact nil_len.1 h))) ?_
    refine Ev.bind (dyad_Make_ev (negT (tl s)) (Nm_D x.1) (by omega) x.2) ?_
    have hlw := lw_lt c3
    have hmk : makeR (negT (tl s)) (V (D x.1)) x.2 = ((mk (sv (negT (tl s)) x.1) x.2).1, (mk (sv (negT (tl s)) x.1) x.2).2.1, (mk (sv (negT (tl s)) x.1) x.2).2.2, 0) := by
      rw [V_D]
      unfold makeR
      rw [if_neg c3, if_neg (by omega), if_neg (by omega)]
    rw [hmk]
    obtain ⟨w1, w2, w3⟩ := w_sv (s := negT (tl s)) c3
    have hR := Round_mk h hm w3 (mg_hex (s := negT (tl s)) b1 b2 b3)
    rw [w1, w2] at hR
    exact Ev.bind hR (Ev.now _)
  · have he : (if (bodyT (tl s)).take 2 = [48, 120] then hexO f m (negT (tl s)) (readS ((bodyT (tl s)).drop 2)) else (0, 0, 12)) = ((0 : Int), (0 : Int), (12 : Int)) := by
      by_cases c : (bodyT (tl s)).take 2 = [48, 120]
      · rw [if_pos c, h2 c]; rfl
      · rw [if_neg c]
    rw [he]
    exact ev_pos rfl (Ev.now _)
end Go.Proofs.YtbcjdlljmhfhdaaDoor.Eng.K

/- Layer 9: the text of a word, what any text says, and that what is printed comes back. -/
set_option linter.unusedVariables false
set_option linter.unusedSimpArgs false
namespace Go.Proofs.YtbcjdlljmhfhdaaDoor.Eng.K
open Go.RowKit Go.Proofs Go.Proofs.YtbcjdlljmhfhdaaDoor.Eng
set_option maxRecDepth 100000
theorem hknown1 (k : Nat) : hexa_Print.f (k + 120) 1 3217031168 = some (⟨#[45, 48, 120, 49, 46, 56, 112, 48]⟩, 0) := by kernel_rfl
theorem hknown2 (k : Nat) : hexa_Parse.f (k + 200) 1 4 tx_03c0852d = some (1065353217, 16, 0) := by kernel_rfl
theorem ev_from {α : Type} {g : Nat → Option α} {r : α} {n : Nat} (h : ∀ k, g (k + n) = some r) : Ev g r := ⟨n, fun k hk => by have := h (k - n); rwa [Nat.sub_add_cancel hk] at this⟩
theorem hknown_ev : Ev (fun k => cutplanelaw09_known.f k) true := by
  unfold cutplanelaw09_known.f
  refine Ev.bind (ev_from hknown1) (Ev.bind (ev_from hknown2) ?_)
  exact ev_pos rfl (ev_pos rfl (ev_pos rfl (ev_pos rfl (ev_eq (Ev.now _) (by simp)))))
theorem hknown_then : Ev (fun k => (cutplanelaw09_known.f k).bind fun t => some t) true := Ev.bind hknown_ev (Ev.now _)
/-! ### what is printed comes back -/
end Go.Proofs.YtbcjdlljmhfhdaaDoor.Eng.K

/- Layer 9: a text whose exponent is 4 less, with one nought more, says the same. -/
set_option linter.unusedVariables false
set_option linter.unusedSimpArgs false
namespace Go.Proofs.YtbcjdlljmhfhdaaDoor.Eng.K
open Go.RowKit Go.Proofs Go.Proofs.YtbcjdlljmhfhdaaDoor.Eng
theorem dval_acc (l : List UInt8) (n : Nat) : dval l n = n * 10 ^ l.length + dval l 0 := by
  induction l generalizing n with
  | nil => simp [dval]
  | cons a l ih =>
    have h : ∀ m, dval (a :: l) m = dval l (10 * m + (a.toNat - 48)) := fun m => rfl
    rw [h, h, ih, ih (10 * 0 + _), List.length_cons, Nat.pow_succ]
    grind
theorem dec_dig {d : Nat} (h : d < 10) : ∃ b, tl ((⟨#[48, 49, 50, 51, 52, 53, 54, 55, 56, 57]⟩ : ByteArray).extract d (d + 1)) = [b] ∧ isD b = true ∧ b.toNat - 48 = d := by
  have : ∀ d : Fin 10, tl ((⟨#[48, 49, 50, 51, 52, 53, 54, 55, 56, 57]⟩ : ByteArray).extract d.1 (d.1 + 1)) = [UInt8.ofNat (48 + d.1)] ∧ isD (UInt8.ofNat (48 + d.1)) = true ∧ (UInt8.ofNat (48 + d.1)).toNat - 48 = d.1 := by decide +kernel
  exact ⟨_, this ⟨d, h⟩⟩
theorem told_l0 (s3 : ByteArray) (hs3 : s3.size ≤ 1) : ∀ (k n : Nat) (t : ByteArray), n < 10 ^ k → (n = 0 → t ≠ ⟨#[]⟩) → k + t.size ≤ 20 → n < 1000000000 → (tl t).all isD = true →
    ∃ r, Ev (fun q => cutplanelaw09_told.l0 q (n : Int) s3 t) (s3 ++ r) ∧ (tl r).all isD = true ∧ dval (tl r) 0 = n * 10 ^ t.size + dval (tl t) 0 ∧ r.size ≤ k + t.size ∧ r ≠ ⟨#[]⟩
  | k, n, t, hn, h0, hk, hb, ht => by
    by_cases c : n = 0
    · subst c
      refine ⟨t, ?_, ht, by simp, by omega, h0 rfl⟩
      refine ev_step ?_; simp only [cutplanelaw09_told.l0]
      exact ev_neg (by omega) (ev_neg (h0 rfl) (ev_pos (by omega) (Ev.now _)))
    · cases k with
      | zero => simp at hn; omega
      | succ k =>
        obtain ⟨b, d1, d2, d3⟩ := dec_dig (d := n % 10) (by omega)
        have hes : ((⟨#[48, 49, 50, 51, 52, 53, 54, 55, 56, 57]⟩ : ByteArray).extract (n % 10) (n % 10 + 1)).size = 1 := by rw [tl_size_eq, d1]; rfl
        obtain ⟨t1, ht1⟩ : ∃ t1, t1 = (⟨#[48, 49, 50, 51, 52, 53, 54, 55, 56, 57]⟩ : ByteArray).extract (n % 10) (n % 10 + 1) ++ t := ⟨_, rfl⟩
        have hl1 : tl t1 = b :: tl t := by rw [ht1, tl_app, d1]; rfl
        have hz1 : t1.size = t.size + 1 := by rw [tl_size_eq, hl1, tl_size_eq t]; rfl
        obtain ⟨r, r1, r2, r3, r4, r5⟩ := told_l0 s3 hs3 k (n / 10) t1 (by rw [Nat.pow_succ] at hn; omega) (fun _ h => by rw [h] at hz1; exact absurd hz1 (by show ¬ 0 = _; omega)) (by omega) (by omega) (by rw [hl1]; simp [d2, ht])
        refine ⟨r, ?_, r2, ?_, by omega, r5⟩
        · have e1 : Int.tmod (n : Int) 10 = ((n % 10 : Nat) : Int) := tmod_n n 10
          have e2 : Int.tdiv (n : Int) 10 = ((n / 10 : Nat) : Int) := tdiv_n n 10
          refine ev_step ?_; simp only [cutplanelaw09_told.l0]
          rw [e1, e2, w64s (n := n % 10) (by omega), w64 (n := ((n / 10 : Nat) : Int)) (by omega) (by omega), Int.toNat_natCast, Int.toNat_natCast, ← ht1]
          refine ev_pos (by omega) (ev_pos (by omega) (ev_pos (by omega) (ev_pos (show ((n % 10 + 1 : Nat) : Int) ≤ ((10 : Nat) : Int) by omega) (ev_pos (by omega) r1))))
        · rw [r3, hz1, hl1]
          have e : dval (b :: tl t) 0 = (n % 10) * 10 ^ t.size + dval (tl t) 0 := by
            have h : dval (b :: tl t) 0 = dval (tl t) (10 * 0 + (b.toNat - 48)) := rfl
            rw [h, dval_acc, d3, tl_len]
            simp
          rw [e, Nat.pow_succ]
          have h2 : n * 10 ^ t.size = (n / 10 * 10 + n % 10) * 10 ^ t.size := by rw [Nat.div_add_mod']
          rw [h2, Nat.add_mul, Nat.mul_assoc, Nat.mul_comm 10]
          omega
theorem isD_ne {b : UInt8} (h : isD b = true) : b ≠ 45 ∧ b ≠ 43 ∧ b ≠ 112 ∧ b ≠ 46 := by
  refine ⟨?_, ?_, ?_, ?_⟩ <;> (rintro rfl; revert h; decide)
theorem all_not {l : List UInt8} {c : UInt8} (h : l.all isD = true) (hc : isD c = false) : c ∉ l := by
  intro hm
  rw [List.all_eq_true] at h
  rw [h c hm] at hc
  cases hc
/-- a whole number's text, behind a p -/
structure Tld (T : List UInt8) (x : Int) : Prop where
  ok : expOk T = true
  v : expV T = x
  len : T.length ≤ 7
  p : (112 : UInt8) ∉ T
  pt : (46 : UInt8) ∉ T
theorem expR_d {l : List UInt8} (h : l.all isD = true) : expN l = false ∧ expR l = l := by
  cases l with
  | nil => exact ⟨rfl, rfl⟩
  | cons a l =>
    simp only [List.all_cons, Bool.and_eq_true] at h
    obtain ⟨n1, n2, -, -⟩ := isD_ne h.1
    exact exp_plain (by simpa using n1) (by simpa using n2)
theorem told_ev {x : Int} (h1 : -999999 ≤ x) (h2 : x ≤ 999999) : ∃ T, Ev (fun k => cutplanelaw09_told.f k x) T ∧ Tld (tl T) x ∧ T.size ≤ 7 := by
  have key : ∀ (s3 : ByteArray), s3.size ≤ 1 → ∀ n : Nat, n < 1000000 → ∃ r, Ev (fun k => cutplanelaw09_told.j0 k (n : Int) s3) (s3 ++ r) ∧ (tl r).all isD = true ∧ dval (tl r) 0 = n ∧ r.size ≤ 6 ∧ r ≠ ⟨#[]⟩ := by
    intro s3 hs3 n hn
    by_cases c : n = 0
    · subst c
      obtain ⟨r, r1, r2, r3, r4, r5⟩ := told_l0 s3 hs3 0 0 ⟨#[48]⟩ (by simp) (fun _ h => by have := congrArg ByteArray.size h; revert this; decide) (by decide) (by omega) (by decide)
      refine ⟨r, ?_, r2, by rw [r3]; decide, Nat.le_trans r4 (by decide), r5⟩
      refine ev_step ?_; simp only [cutplanelaw09_told.j0]
      refine ev_step ?_; simp only [cutplanelaw09_told.l0]
      refine ev_neg (by omega) (ev_pos trivial (ev_pos (by decide) (ev_pos (by decide) (ev_pos (by decide) (ev_pos (by decide) ?_)))))
      have e : ((⟨#[48, 49, 50, 51, 52, 53, 54, 55, 56, 57]⟩ : ByteArray).extract (Int.tmod 0 10 : Int).toNat (wrap64 ((Int.tmod 0 10) + 1) : Int).toNat) ++ (⟨#[]⟩ : ByteArray) = ⟨#[48]⟩ := by decide +kernel
      have e2 : wrap64 (Int.tdiv 0 10) = 0 := by decide
      show Ev (fun k => cutplanelaw09_told.l0 k (wrap64 (Int.tdiv 0 10)) s3 (((⟨#[48, 49, 50, 51, 52, 53, 54, 55, 56, 57]⟩ : ByteArray).extract (Int.tmod 0 10 : Int).toNat (wrap64 ((Int.tmod 0 10) + 1) : Int).toNat) ++ (⟨#[]⟩ : ByteArray))) _
      rw [e, e2]
      exact r1
    · obtain ⟨r, r1, r2, r3, r4, r5⟩ := told_l0 s3 hs3 6 n ⟨#[]⟩ (by omega) (fun h => absurd h c) (by decide) (by omega) rfl
      refine ⟨r, ?_, r2, ?_, Nat.le_trans r4 (by decide), r5⟩
      · refine ev_step ?_; simp only [cutplanelaw09_told.j0]
        exact r1
      · rw [r3]
        show n * 10 ^ 0 + 0 = n
        omega
  by_cases c : x < 0
  · obtain ⟨r, r1, r2, r3, r4, r5⟩ := key ⟨#[45]⟩ (by decide) x.natAbs (by omega)
    have hT : tl ((⟨#[45]⟩ : ByteArray) ++ r) = 45 :: tl r := by rw [tl_app]; rfl
    have hz : ((⟨#[45]⟩ : ByteArray) ++ r).size = r.size + 1 := by rw [tl_size_eq, hT, tl_size_eq r]; rfl
    refine ⟨⟨#[45]⟩ ++ r, ?_, ?_, by omega⟩
    · unfold cutplanelaw09_told.f
      refine ev_pos c ?_
      rw [w64 (n := -x) (by omega) (by omega), show -x = (x.natAbs : Int) by omega]
      exact r1
    · rw [hT]
      refine ⟨?_, ?_, ?_, ?_, ?_⟩
      · show (decide (tl r ≠ []) && decide ((tl r).length ≤ 6) && (tl r).all isD) = true
        rw [r2, decide_eq_true (show tl r ≠ [] from fun h => r5 (tl_nil.1 h)), decide_eq_true (show (tl r).length ≤ 6 by rw [tl_len]; exact r4)]
        rfl
      · show -((dval (tl r) 0 : Nat) : Int) = x
        rw [r3]; omega
      · rw [List.length_cons, tl_len]; omega
      · intro h
        rcases List.mem_cons.1 h with h | h
        · revert h; decide
        · exact all_not r2 (by decide) h
      · intro h
        rcases List.mem_cons.1 h with h | h
        · revert h; decide
        · exact all_not r2 (by decide) h
  · obtain ⟨r, r1, r2, r3, r4, r5⟩ := key ⟨#[]⟩ (by decide) x.natAbs (by omega)
    have hT : (⟨#[]⟩ : ByteArray) ++ r = r := tl_inj.1 (by rw [tl_app]; rfl)
    rw [hT] at r1
    obtain ⟨n1, n2⟩ := expR_d r2
    refine ⟨r, ?_, ?_, by omega⟩
    · unfold cutplanelaw09_told.f
      refine ev_neg c ?_
      rw [show x = (x.natAbs : Int) by omega]
      exact r1
    · refine ⟨?_, ?_, by rw [tl_len]; omega, all_not r2 (by decide), all_not r2 (by decide)⟩
      · unfold expOk
        rw [n2, r2, decide_eq_true (show tl r ≠ [] from fun h => r5 (tl_nil.1 h)), decide_eq_true (show (tl r).length ≤ 6 by rw [tl_len]; exact r4)]
        rfl
      · unfold expV
        rw [n1, n2, if_neg (by simp), r3]; omega
theorem last_eq {A B A' B' : List UInt8} {c : UInt8} (h : A ++ c :: B = A' ++ c :: B') (h1 : c ∉ B) (h2 : c ∉ B') : A = A' ∧ B = B' := by
  have e := congrArg List.reverse h
  simp only [List.reverse_append, List.reverse_cons, List.append_assoc, List.singleton_append] at e
  obtain ⟨r1, r2⟩ := first_eq e (by simpa using h1) (by simpa using h2)
  exact ⟨List.reverse_inj.1 r2, List.reverse_inj.1 r1⟩
theorem expOk_not {E : List UInt8} (h : expOk E = true) : (112 : UInt8) ∉ E ∧ (46 : UInt8) ∉ E := by
  simp only [expOk, Bool.and_eq_true, decide_eq_true_eq] at h
  have h2 := h.2
  unfold expR at h2
  split at h2
  · rename_i r
    refine ⟨fun hm => ?_, fun hm => ?_⟩
    · rcases List.mem_cons.1 hm with hm | hm
      · revert hm; decide
      · exact all_not h2 (by decide) hm
    · rcases List.mem_cons.1 hm with hm | hm
      · revert hm; decide
      · exact all_not h2 (by decide) hm
  · rename_i r
    refine ⟨fun hm => ?_, fun hm => ?_⟩
    · rcases List.mem_cons.1 hm with hm | hm
      · revert hm; decide
      · exact all_not h2 (by decide) hm
    · rcases List.mem_cons.1 hm with hm | hm
      · revert hm; decide
      · exact all_not h2 (by decide) hm
  · exact ⟨all_not h2 (by decide), all_not h2 (by decide)⟩
theorem hexS_plain (f m : Int) {r : List UInt8} (h : r.length ≤ 1198) : hexS f m (48 :: 120 :: r) = hexO f m false (readS r) := by
  unfold hexS
  rw [if_neg (by simp; omega), if_neg (fun h => absurd (List.cons.inj h).1 (by decide))]
  show hexB f m false (48 :: 120 :: r) = _
  unfold hexB
  rw [if_neg (fun h => absurd (List.cons.inj h).1 (by decide)), if_pos (show List.take 2 (48 :: 120 :: r) = [48, 120] from rfl)]
  rfl
/-- where a text with a point and an exponent without one parts -/
theorem rd_parts {W0 P0 T W P E : List UInt8} {pt : Bool} {x : Int} (hT : Tld T x) (h : Rd (W0 ++ 46 :: P0 ++ 112 :: T) W P E pt) : W = W0 ∧ P = P0 ∧ pt = true ∧ E = T := by
  obtain ⟨e1, e2⟩ := expOk_not h.e
  obtain ⟨q1, q2⟩ := last_eq h.l hT.p e1
  cases pt with
  | true =>
    simp only [if_true] at q1
    have n1 := not_mem_of_all h.hw hx46
    have n2 := not_mem_of_all h.hp hx46
    have n3 : (46 : UInt8) ∉ P0 := by
      intro hm
      have hc := congrArg (List.count 46) q1
      simp only [List.count_append, List.count_cons_self] at hc
      have c1 := List.count_eq_zero.2 n1
      have c2 := List.count_eq_zero.2 n2
      have c3 := List.count_pos_iff.2 hm
      omega
    obtain ⟨r1, r2⟩ := last_eq (A := W0) (B := P0) (A' := W) (B' := P) q1 n3 n2
    exact ⟨r1.symm, r2.symm, rfl, q2.symm⟩
  | false =>
    simp only [Bool.false_eq_true, if_false, List.append_nil] at q1
    exfalso
    exact not_mem_of_all h.hw hx46 (by rw [← q1]; simp)
theorem hval_zero (l : List UInt8) : hval (48 :: l) 0 = hval l 0 := rfl
theorem hexN_err (f m : Int) (s : Bool) (x : Nat × Int) : (hexN f m s x).2.2 = 0 := by unfold hexN; split <;> rfl
theorem HexaMoved (f m : Int) (u v : ByteArray) (n : Int) (hu : u.size ≤ 140737488355328) (hv : v.size ≤ 140737488355328) : Ev (fun k => cutplanelaw09_HexaMoved.f k f m u v n) true := by
  unfold cutplanelaw09_HexaMoved.f
  refine ev_bind (rIs_eq f) ?_
  by_cases h : isF f
  rotate_left
  · rw [decide_eq_false h]; exact ev_pos rfl hknown_then
  rw [decide_eq_true h]
  refine ev_neg (by simp) (ev_bind (rIsM_eq m) ?_)
  by_cases hm : isM m
  rotate_left
  · rw [decide_eq_false hm]; exact ev_pos rfl hknown_then
  rw [decide_eq_true hm]
  refine ev_neg (by simp) ?_
  rw [w64 (n := (u.size : Int) + (v.size : Int)) (by omega) (by omega)]
  by_cases c1 : (u.size : Int) + (v.size : Int) > 1000
  · exact ev_pos c1 hknown_then
  refine ev_neg c1 ?_
  by_cases c2 : n < -9999
  · exact ev_pos c2 hknown_then
  refine ev_neg c2 ?_
  by_cases c3 : n > 9999
  · exact ev_pos c3 hknown_then
  refine ev_neg c3 ?_
  have z1 : (⟨#[48, 120]⟩ : ByteArray).size = 2 := rfl
  have z2 : (⟨#[46]⟩ : ByteArray).size = 1 := rfl
  have z3 : (⟨#[112]⟩ : ByteArray).size = 1 := rfl
  have z4 : (⟨#[48, 120, 48]⟩ : ByteArray).size = 3 := rfl
  have z5 : (⟨#[48, 112]⟩ : ByteArray).size = 2 := rfl
  have z6 : (⟨#[48, 120, 48, 46, 48]⟩ : ByteArray).size = 5 := rfl
  obtain ⟨T, hT, hT2, hTs⟩ := told_ev (x := n) (by omega) (by omega)
  obtain ⟨T2, hU, hU2, hUs⟩ := told_ev (x := n - 4 * (v.size : Int)) (by omega) (by omega)
  obtain ⟨T3, hX, hX2, hXs⟩ := told_ev (x := n + 4 * (u.size : Int) + 4) (by omega) (by omega)
  have e1 : wrap64 (n - wrap64 (4 * (v.size : Int))) = n - 4 * (v.size : Int) := by rw [w64 (n := 4 * (v.size : Int)) (by omega) (by omega), w64 (by omega) (by omega)]
  have e2 : wrap64 (wrap64 (n + wrap64 (4 * (u.size : Int))) + 4) = n + 4 * (u.size : Int) + 4 := by rw [w64 (n := 4 * (u.size : Int)) (by omega) (by omega), w64 (n := n + 4 * (u.size : Int)) (by omega) (by omega), w64 (by omega) (by omega)]
  have ha := Parse_ev h hm ((((((⟨#[48, 120]⟩ : ByteArray) ++ u) ++ (⟨#[46]⟩ : ByteArray)) ++ v) ++ (⟨#[112]⟩ : ByteArray)) ++ T)
  have hla : tl ((((((⟨#[48, 120]⟩ : ByteArray) ++ u) ++ (⟨#[46]⟩ : ByteArray)) ++ v) ++ (⟨#[112]⟩ : ByteArray)) ++ T) = 48 :: 120 :: (tl u ++ 46 :: tl v ++ 112 :: tl T) := by simp only [tl_app]; simp [tl]
  rw [hla, hexS_plain f m (by simp only [List.length_append, List.length_cons, tl_len]; omega)] at ha
  refine ev_pos (by omega) (ev_pos (by simp only [ByteArray.size_append]; omega) (ev_pos (by simp only [ByteArray.size_append]; omega) (ev_pos (by simp only [ByteArray.size_append]; omega) (Ev.bind hT (ev_pos (by simp only [ByteArray.size_append]; omega) (Ev.bind ha ?_))))))
  cases hr : readS (tl u ++ 46 :: tl v ++ 112 :: tl T) with
  | none => exact ev_pos (by simp [hexO]) (ev_pos rfl (ev_pos rfl (ev_pos rfl hknown_then)))
  | some x =>
    obtain ⟨W, P, E, pt, hrd, hx⟩ := readS_some hr
    obtain ⟨rfl, rfl, rfl, rfl⟩ := rd_parts hT2 hrd
    rw [hT2.v] at hx
    subst hx
    obtain ⟨R, hR⟩ : ∃ R, R = hexN f m false (hval (tl u ++ tl v) 0, n - 4 * ((tl v).length : Int)) := ⟨_, rfl⟩
    have hR2 : R.2.2 = 0 := by rw [hR]; exact hexN_err _ _ _ _
    have hOa : hexO f m false (some (hval (tl u ++ tl v) 0, n - 4 * ((tl v).length : Int))) = R := hR.symm
    rw [hOa]
    have hb := Parse_ev h hm ((((((⟨#[48, 120, 48]⟩ : ByteArray) ++ u) ++ (⟨#[46]⟩ : ByteArray)) ++ v) ++ (⟨#[48, 112]⟩ : ByteArray)) ++ T)
    have hlb : tl ((((((⟨#[48, 120, 48]⟩ : ByteArray) ++ u) ++ (⟨#[46]⟩ : ByteArray)) ++ v) ++ (⟨#[48, 112]⟩ : ByteArray)) ++ T) = 48 :: 120 :: ((48 :: tl u) ++ (if true = true then 46 :: (tl v ++ [48]) else []) ++ 112 :: tl T) := by simp only [tl_app]; simp [tl]
    have hrb := readS_of (l := (48 :: tl u) ++ (if true = true then 46 :: (tl v ++ [48]) else []) ++ 112 :: tl T) (W := 48 :: tl u) (P := tl v ++ [48]) (E := tl T) (pt := true)
      ⟨rfl, by simp, by simp only [List.all_cons, hrd.hw]; decide, by simp only [List.all_append, hrd.hp]; decide, by simp, hT2.ok⟩
    have hvb : hval ((48 :: tl u) ++ (tl v ++ [48])) 0 = hval (tl u ++ tl v) 0 * 2 ^ 4 := by
      rw [List.cons_append, hval_zero, ← List.append_assoc, hval_app]
      show 16 * _ + 0 = _
      omega
    rw [hlb, hexS_plain f m (by simp only [if_true, List.length_append, List.length_cons, tl_len, List.length_nil]; omega), hrb, hvb, hT2.v] at hb
    have hOb : hexO f m false (some (hval (tl u ++ tl v) 0 * 2 ^ 4, n - 4 * ((tl v ++ [48]).length : Int))) = R := by
      show hexN f m false (hval (tl u ++ tl v) 0 * 2 ^ 4, _) = R
      rw [hexN_up, hR]
      congr 2
      rw [List.length_append]
      simp
      omega
    rw [hOb] at hb
    have hc := Parse_ev h hm (((((⟨#[48, 120]⟩ : ByteArray) ++ u) ++ v) ++ (⟨#[112]⟩ : ByteArray)) ++ T2)
    have hlc : tl (((((⟨#[48, 120]⟩ : ByteArray) ++ u) ++ v) ++ (⟨#[112]⟩ : ByteArray)) ++ T2) = 48 :: 120 :: ((tl u ++ tl v) ++ (if false = true then 46 :: [] else []) ++ 112 :: tl T2) := by simp only [tl_app]; simp [tl]
    have hrc := readS_of (l := (tl u ++ tl v) ++ (if false = true then 46 :: [] else []) ++ 112 :: tl T2) (W := tl u ++ tl v) (P := []) (E := tl T2) (pt := false)
      ⟨rfl, fun he => hrd.w (List.append_eq_nil_iff.1 he).1, by rw [List.all_append, hrd.hw, hrd.hp]; rfl, rfl, rfl, hU2.ok⟩
    rw [hlc, hexS_plain f m (by simp only [Bool.false_eq_true, if_false, List.length_append, List.length_cons, tl_len, List.length_nil]; omega), hrc, hU2.v] at hc
    have hOc : hexO f m false (some (hval ((tl u ++ tl v) ++ []) 0, n - 4 * (v.size : Int) - 4 * (([] : List UInt8).length : Int))) = R := by
      show hexN f m false (hval ((tl u ++ tl v) ++ []) 0, _) = R
      rw [hR, List.append_nil]
      congr 2
      rw [tl_len]
      simp
    rw [hOc] at hc
    have hd := Parse_ev h hm (((((⟨#[48, 120, 48, 46, 48]⟩ : ByteArray) ++ u) ++ v) ++ (⟨#[112]⟩ : ByteArray)) ++ T3)
    have hld : tl (((((⟨#[48, 120, 48, 46, 48]⟩ : ByteArray) ++ u) ++ v) ++ (⟨#[112]⟩ : ByteArray)) ++ T3) = 48 :: 120 :: ([48] ++ (if true = true then 46 :: (48 :: (tl u ++ tl v)) else []) ++ 112 :: tl T3) := by simp only [tl_app]; simp [tl]
    have hrd3 := readS_of (l := [48] ++ (if true = true then 46 :: (48 :: (tl u ++ tl v)) else []) ++ 112 :: tl T3) (W := [48]) (P := 48 :: (tl u ++ tl v)) (E := tl T3) (pt := true)
      ⟨rfl, by simp, by decide, by simp only [List.all_cons, List.all_append, hrd.hw, hrd.hp]; decide, by simp, hX2.ok⟩
    rw [hld, hexS_plain f m (by simp only [if_true, List.length_append, List.length_cons, tl_len, List.length_nil]; omega), hrd3, hX2.v] at hd
    have hOd : hexO f m false (some (hval ([48] ++ 48 :: (tl u ++ tl v)) 0, n + 4 * (u.size : Int) + 4 - 4 * ((48 :: (tl u ++ tl v)).length : Int))) = R := by
      show hexN f m false (hval (tl u ++ tl v) 0, _) = R
      rw [hR]
      congr 2
      rw [List.length_cons, List.length_append, tl_len, tl_len]
      omega
    rw [hOd] at hd
    rw [e1, e2]
    refine ev_neg (by rw [hR2]; simp) (ev_pos (by omega) (ev_pos (by simp only [ByteArray.size_append]; omega) (ev_pos (by simp only [ByteArray.size_append]; omega) (ev_pos (by simp only [ByteArray.size_append]; omega) (Ev.bind hT (ev_pos (by simp only [ByteArray.size_append]; omega) (Ev.bind hb ?_)))))))
    refine ev_pos (by omega) (ev_pos (by simp only [ByteArray.size_append]; omega) (ev_pos (by simp only [ByteArray.size_append]; omega) (Ev.bind hU (ev_pos (by simp only [ByteArray.size_append]; omega) (Ev.bind hc ?_)))))
    refine ev_pos (by omega) (ev_pos (by simp only [ByteArray.size_append]; omega) (ev_pos (by simp only [ByteArray.size_append]; omega) (Ev.bind hX (ev_pos (by simp only [ByteArray.size_append]; omega) (Ev.bind hd ?_)))))
    exact ev_pos hR2 (ev_pos hR2 (ev_pos hR2 (ev_pos rfl (ev_pos rfl (ev_pos rfl (ev_pos rfl (ev_pos rfl (ev_pos rfl hknown_then))))))))
end Go.Proofs.YtbcjdlljmhfhdaaDoor.Eng.K

