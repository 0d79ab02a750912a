/- Numbers as lists of digits to the base 2^32: their values, the normal list of a number; loops that answer from some number of rounds on. -/
import Derived.Test.YtldcelgbinenbaaDoorWWords
import Derived.Test.YtldcelgbinenbaaDoorWMore
set_option linter.unusedVariables false
set_option linter.unusedSimpArgs false
namespace Go.Proofs.YtldcelgbinenbaaDoor.K
open Go.RowKit Go.Proofs.YtldcelgbinenbaaDoorW.PrintWords

/-! ### what the printed functions are made of -/
theorem w64n {n : Int} (h0 : 0 ≤ n) (h1 : n < 9223372036854775808) : wrap64 n = n := by unfold wrap64; omega
theorem u64 {n : Int} (h0 : 0 ≤ n) (h1 : n < 18446744073709551616) : IntKind.u64.wrap n = n := by
  simp [IntKind.wrap, IntKind.bits, IntKind.signed]; omega
theorem rdn (xs : List Int) (n : Nat) : rd xs (n : Int) = xs.getD n 0 := by simp [rd]
theorem rd_app {xs ys : List Int} {y : Int} {i : Int} (h : i = (xs.length : Int)) : rd (xs ++ y :: ys) i = y := by
  subst h; simp [rd]
theorem set_app {xs ys : List Int} {y z : Int} {i : Int} (h : i = (xs.length : Int)) : (xs ++ y :: ys).set i.toNat z = (xs ++ [z]) ++ ys := by
  subst h; simp
theorem ev_eq {α : Type} {g : Nat → Option α} {r s : α} (h : Ev g r) (e : r = s) : Ev g s := e ▸ h
theorem ev_const {α : Type} {x : Option α} {r : α} (h : x = some r) : Ev (fun _ => x) r := by subst h; exact Ev.now r
theorem ev_pos {α : Type} {c : Prop} {_ : Decidable c} {g f : Nat → Option α} {r : α} (h : c) (k : Ev g r) : Ev (fun n => if c then g n else f n) r := by
  simpa [h] using k
theorem ev_neg {α : Type} {c : Prop} {_ : Decidable c} {g f : Nat → Option α} {r : α} (h : ¬ c) (k : Ev f r) : Ev (fun n => if c then g n else f n) r := by
  simpa [h] using k
theorem ev_bind {α β : Type} {x : Option α} {f : Nat → α → Option β} {a : α} {r : β} (h : x = some a) (k : Ev (fun n => f n a) r) : Ev (fun n => x.bind (f n)) r := by
  subst h; exact k
theorem ev_step {α : Type} {g : Nat → Option α} {r : α} (k : Ev (fun n => g (n + 1)) r) : Ev g r := Ev.step (fun _ => rfl) k
/-- answers that are the same from some round on -/
theorem Ev.unique {α : Type} {g : Nat → Option α} {r s : α} (h : Ev g r) (k : Ev g s) : r = s := by
  obtain ⟨a, ha⟩ := h; obtain ⟨b, hb⟩ := k
  have h1 := ha (max a b) (Nat.le_max_left _ _); have h2 := hb (max a b) (Nat.le_max_right _ _)
  rw [h1] at h2; exact Option.some.inj h2

/-! ### values -/
def Dg (l : List Int) : Prop := ∀ x ∈ l, 0 ≤ x ∧ x < 4294967296
def V : List Int → Nat
  | [] => 0
  | d :: l => d.toNat + 4294967296 * V l
def D (n : Nat) : List Int := if h : n = 0 then [] else ((n % 4294967296 : Nat) : Int) :: D (n / 4294967296)
termination_by n
decreasing_by omega

theorem Dg.nil : Dg [] := fun _ h => by simp at h
theorem Dg.cons {d : Int} {l : List Int} (h0 : 0 ≤ d) (h1 : d < 4294967296) (h : Dg l) : Dg (d :: l) := fun x hx => by
  rcases List.mem_cons.1 hx with rfl | hx
  · exact ⟨h0, h1⟩
  · exact h x hx
theorem Dg.head {d : Int} {l : List Int} (h : Dg (d :: l)) : 0 ≤ d ∧ d < 4294967296 := h d (by simp)
theorem Dg.tail {d : Int} {l : List Int} (h : Dg (d :: l)) : Dg l := fun x hx => h x (by simp [hx])
theorem Dg.app {a b : List Int} (h : Dg a) (k : Dg b) : Dg (a ++ b) := fun x hx => by
  rcases List.mem_append.1 hx with hx | hx
  · exact h x hx
  · exact k x hx
theorem Dg.left {a b : List Int} (h : Dg (a ++ b)) : Dg a := fun x hx => h x (by simp [hx])
theorem Dg.right {a b : List Int} (h : Dg (a ++ b)) : Dg b := fun x hx => h x (by simp [hx])
theorem Dg.take {a : List Int} (h : Dg a) (n : Nat) : Dg (a.take n) := fun x hx => h x (List.mem_of_mem_take hx)
theorem Dg.drop {a : List Int} (h : Dg a) (n : Nat) : Dg (a.drop n) := fun x hx => h x (List.mem_of_mem_drop hx)
theorem Dg.zeros (n : Nat) : Dg (List.replicate n 0) := fun x hx => by
  obtain ⟨_, rfl⟩ := List.mem_replicate.1 hx; omega
theorem Dg.getD {a : List Int} (h : Dg a) (n : Nat) : 0 ≤ a.getD n 0 ∧ a.getD n 0 < 4294967296 := by
  rw [List.getD_eq_getElem?_getD]
  cases e : a[n]? with
  | none => simp
  | some x => simpa using h x (List.mem_of_getElem? e)
theorem Dg.set {a : List Int} (h : Dg a) (n : Nat) {x : Int} (h0 : 0 ≤ x) (h1 : x < 4294967296) : Dg (a.set n x) := fun y hy => by
  rcases List.mem_or_eq_of_mem_set hy with hy | rfl
  · exact h y hy
  · exact ⟨h0, h1⟩
theorem Dg.wf {a : List Int} (h : ∀ x ∈ a, (Lit.int .u32 x).wf = true) : Dg a := fun x hx => by
  have := h x hx
  simp [Lit.wf, IntKind.min, IntKind.max, IntKind.signed, IntKind.bits] at this
  omega

@[simp] theorem V_nil : V [] = 0 := rfl
@[simp] theorem V_cons (d : Int) (l : List Int) : V (d :: l) = d.toNat + 4294967296 * V l := rfl
theorem V_append (a b : List Int) : V (a ++ b) = V a + 4294967296 ^ a.length * V b := by
  induction a with
  | nil => simp
  | cons d a ih => simp [ih, Nat.pow_succ]; grind
theorem V_zeros (n : Nat) : V (List.replicate n 0) = 0 := by
  induction n with
  | zero => rfl
  | succ n ih => simp [List.replicate_succ, ih]
theorem V_lt {l : List Int} (h : Dg l) : V l < 4294967296 ^ l.length := by
  induction l with
  | nil => simp
  | cons d l ih =>
    have := ih h.tail; have := h.head
    simp only [V_cons, List.length_cons, Nat.pow_succ]
    omega
theorem D_zero : D 0 = [] := by unfold D; simp
theorem D_pos {n : Nat} (h : n ≠ 0) : D n = ((n % 4294967296 : Nat) : Int) :: D (n / 4294967296) := by
  conv => lhs; unfold D
  simp [h]
theorem V_D (n : Nat) : V (D n) = n := by
  induction n using Nat.strongRecOn with
  | _ n ih =>
    by_cases h : n = 0
    · subst h; simp [D_zero]
    · rw [D_pos h, V_cons, ih _ (by omega)]; omega
theorem Dg_D (n : Nat) : Dg (D n) := by
  induction n using Nat.strongRecOn with
  | _ n ih =>
    by_cases h : n = 0
    · subst h; rw [D_zero]; exact Dg.nil
    · rw [D_pos h]; exact Dg.cons (by omega) (by omega) (ih _ (by omega))
theorem D_cons {d : Int} {n : Nat} (h0 : 0 ≤ d) (h1 : d < 4294967296) (h : d ≠ 0 ∨ n ≠ 0) : D (d.toNat + 4294967296 * n) = d :: D n := by
  rw [D_pos (by omega)]
  congr 1
  · omega
  · congr 1; omega
/-- a list that is a number's: no nought at the high end -/
def Nm (l : List Int) : Prop := D (V l) = l
instance (l : List Int) : Decidable (Nm l) := inferInstanceAs (Decidable (D (V l) = l))
theorem Nm.dg {l : List Int} (h : Nm l) : Dg l := h ▸ Dg_D _
theorem Nm_D (n : Nat) : Nm (D n) := by unfold Nm; rw [V_D]
theorem Nm_nil : Nm [] := by unfold Nm; exact D_zero
theorem Nm.inj {a b : List Int} (h : Nm a) (k : Nm b) (e : V a = V b) : a = b := by rw [← h, e, k]
theorem V_eq_zero {l : List Int} (h : Nm l) : V l = 0 ↔ l = [] := by
  constructor
  · intro e; rw [← h, e, D_zero]
  · rintro rfl; rfl
theorem Nm_snoc {l : List Int} {d : Int} (h : Dg l) (h0 : 0 < d) (h1 : d < 4294967296) : Nm (l ++ [d]) := by
  unfold Nm
  induction l with
  | nil =>
    have := D_cons (d := d) (n := 0) (by omega) h1 (by omega)
    simpa [D_zero] using this
  | cons x l ih =>
    have hx := h.head
    rw [List.cons_append, V_cons, D_cons hx.1 hx.2, ih h.tail]
    right; rw [V_append]
    have : 0 < 4294967296 ^ l.length := Nat.pow_pos (by omega)
    have : 0 < 4294967296 ^ l.length * V [d] := Nat.mul_pos this (by simp; omega)
    omega
theorem V_snoc_zero (l : List Int) : V (l ++ [0]) = V l := by rw [V_append]; simp
theorem D_len_le {l : List Int} (h : Dg l) : (D (V l)).length ≤ l.length := by
  induction l with
  | nil => simp [D_zero]
  | cons x l ih =>
    have hx := h.head
    by_cases e : x ≠ 0 ∨ V l ≠ 0
    · rw [V_cons, D_cons hx.1 hx.2 e]; simpa using ih h.tail
    · have h1 : x = 0 := by omega
      have h2 : V l = 0 := by omega
      simp [h1, h2, D_zero]
theorem Nm_last {l : List Int} {d : Int} (h : Nm (l ++ [d])) : d ≠ 0 := by
  intro e; subst e
  have h2 := D_len_le h.dg.left
  have h3 : D (V (l ++ [0])) = l ++ [0] := h
  rw [V_snoc_zero] at h3
  rw [h3] at h2
  simp at h2
  omega
theorem Nm_iff {l : List Int} (h : Dg l) : Nm l ↔ l = [] ∨ l.getD (l.length - 1) 0 ≠ 0 := by
  rcases List.eq_nil_or_concat l with rfl | ⟨a, d, rfl⟩
  · simp [Nm_nil]
  · rw [List.concat_eq_append] at h ⊢
    have : (a ++ [d]).getD ((a ++ [d]).length - 1) 0 = d := by simp
    rw [this]
    constructor
    · intro k; exact .inr (Nm_last k)
    · rintro (k | k)
      · simp at k
      · have := h d (by simp)
        exact Nm_snoc h.left (by omega) this.2
theorem D_len_lt {n k : Nat} (h : n < 4294967296 ^ k) : (D n).length ≤ k := by
  induction k generalizing n with
  | zero => have : n = 0 := by simpa using h
            subst this; simp [D_zero]
  | succ k ih =>
    by_cases e : n = 0
    · subst e; simp [D_zero]
    · rw [D_pos e, List.length_cons]
      have := ih (n := n / 4294967296) (by rw [Nat.pow_succ] at h; omega)
      omega
theorem D_len_ge {n : Nat} (h : n ≠ 0) : 4294967296 ^ ((D n).length - 1) ≤ n := by
  apply Nat.le_of_not_lt
  intro k
  have := D_len_lt k
  have : (D n).length ≠ 0 := by rw [D_pos h]; simp
  omega
theorem Nm.len {l : List Int} (h : Nm l) : (D (V l)).length = l.length := by rw [h]
end Go.Proofs.YtldcelgbinenbaaDoor.K
