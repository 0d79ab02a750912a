import Derived.Test.YtclegbgmhimenaaDoorQConvBackF1
import Derived.Laws.BitsAllLaws
import Derived.Lib.Bytes
set_option linter.unusedVariables false
set_option linter.unusedSimpArgs false
/- Loops that answer from some number of rounds on. -/
namespace Go.Proofs.YtclegbgmhimenaaDoor.Eng
def Ev {α : Type} (g : Nat → Option α) (r : α) : Prop := ∃ n, ∀ k, n ≤ k → g k = some r
theorem Ev.now {α : Type} (r : α) : Ev (fun _ => some r) r := ⟨0, fun _ _ => rfl⟩
theorem Ev.bind {α β : Type} {g : Nat → Option α} {f : Nat → α → Option β} {a : α} {r : β} (h : Ev g a) (k : Ev (fun n => f n a) r) : Ev (fun n => (g n).bind (f n)) r := by
  obtain ⟨n, hn⟩ := h
  obtain ⟨m, hm⟩ := k
  exact ⟨n + m, fun i hi => by show (g i).bind (f i) = some r; rw [hn i (by omega), Option.bind_some]; exact hm i (by omega)⟩
theorem Ev.step {α : Type} {g f : Nat → Option α} {r : α} (h : ∀ k, g (k + 1) = f k) (k : Ev f r) : Ev g r := by
  obtain ⟨n, hn⟩ := k
  refine ⟨n + 1, fun i hi => ?_⟩
  obtain ⟨i, rfl⟩ : ∃ j, i = j + 1 := ⟨i - 1, by omega⟩
  rw [h]; exact hn i (by omega)
end Go.Proofs.YtclegbgmhimenaaDoor.Eng

/- Numbers as lists of digits to the base 2^32: their values, the normal list of a number; loops that answer from some number of rounds on. -/
set_option linter.unusedVariables false
set_option linter.unusedSimpArgs false
namespace Go.Proofs.YtclegbgmhimenaaDoor.Eng.K
open Go.RowKit

/-! ### what the printed functions are made of -/
theorem w64n {n : Int} (h0 : 0 ≤ n) (h1 : n < 9223372036854775808) : wrap64 n = n := by unfold wrap64; omega
theorem u64 {n : Int} (h0 : 0 ≤ n) (h1 : n < 18446744073709551616) : IntKind.u64.wrap n = n := by
  simp [IntKind.wrap, IntKind.bits, IntKind.signed]; omega
theorem u64m (n : Int) : IntKind.u64.wrap n = n % 18446744073709551616 := by
  simp [IntKind.wrap, IntKind.bits, IntKind.signed]
theorem rdn (xs : List Int) (n : Nat) : rd xs (n : Int) = xs.getD n 0 := by simp [rd]
theorem rd_app {xs ys : List Int} {y : Int} {i : Int} (h : i = (xs.length : Int)) : rd (xs ++ y :: ys) i = y := by
  subst h; simp [rd]
theorem set_app {xs ys : List Int} {y z : Int} {i : Int} (h : i = (xs.length : Int)) : (xs ++ y :: ys).set i.toNat z = (xs ++ [z]) ++ ys := by
  subst h; simp
theorem ev_eq {α : Type} {g : Nat → Option α} {r s : α} (h : Ev g r) (e : r = s) : Ev g s := e ▸ h
theorem ev_const {α : Type} {x : Option α} {r : α} (h : x = some r) : Ev (fun _ => x) r := by subst h; exact Ev.now r
theorem ev_pos {α : Type} {c : Prop} {_ : Decidable c} {g f : Nat → Option α} {r : α} (h : c) (k : Ev g r) : Ev (fun n => if c then g n else f n) r := by
  simpa [h] using k
theorem ev_neg {α : Type} {c : Prop} {_ : Decidable c} {g f : Nat → Option α} {r : α} (h : ¬ c) (k : Ev f r) : Ev (fun n => if c then g n else f n) r := by
  simpa [h] using k
theorem ev_bind {α β : Type} {x : Option α} {f : Nat → α → Option β} {a : α} {r : β} (h : x = some a) (k : Ev (fun n => f n a) r) : Ev (fun n => x.bind (f n)) r := by
  subst h; exact k
theorem ev_step {α : Type} {g : Nat → Option α} {r : α} (k : Ev (fun n => g (n + 1)) r) : Ev g r := Ev.step (fun _ => rfl) k
/-- answers that are the same from some round on -/
theorem Ev.unique {α : Type} {g : Nat → Option α} {r s : α} (h : Ev g r) (k : Ev g s) : r = s := by
  obtain ⟨a, ha⟩ := h; obtain ⟨b, hb⟩ := k
  have h1 := ha (max a b) (Nat.le_max_left _ _); have h2 := hb (max a b) (Nat.le_max_right _ _)
  rw [h1] at h2; exact Option.some.inj h2

/-! ### values -/
def Dg (l : List Int) : Prop := ∀ x ∈ l, 0 ≤ x ∧ x < 4294967296
def V : List Int → Nat
  | [] => 0
  | d :: l => d.toNat + 4294967296 * V l
def D (n : Nat) : List Int := if h : n = 0 then [] else ((n % 4294967296 : Nat) : Int) :: D (n / 4294967296)
termination_by n
decreasing_by omega

theorem Dg.nil : Dg [] := fun _ h => by simp at h
theorem Dg.cons {d : Int} {l : List Int} (h0 : 0 ≤ d) (h1 : d < 4294967296) (h : Dg l) : Dg (d :: l) := fun x hx => by
  rcases List.mem_cons.1 hx with rfl | hx
  · exact ⟨h0, h1⟩
  · exact h x hx
theorem Dg.head {d : Int} {l : List Int} (h : Dg (d :: l)) : 0 ≤ d ∧ d < 4294967296 := h d (by simp)
theorem Dg.tail {d : Int} {l : List Int} (h : Dg (d :: l)) : Dg l := fun x hx => h x (by simp [hx])
theorem Dg.app {a b : List Int} (h : Dg a) (k : Dg b) : Dg (a ++ b) := fun x hx => by
  rcases List.mem_append.1 hx with hx | hx
  · exact h x hx
  · exact k x hx
theorem Dg.left {a b : List Int} (h : Dg (a ++ b)) : Dg a := fun x hx => h x (by simp [hx])
theorem Dg.right {a b : List Int} (h : Dg (a ++ b)) : Dg b := fun x hx => h x (by simp [hx])
theorem Dg.take {a : List Int} (h : Dg a) (n : Nat) : Dg (a.take n) := fun x hx => h x (List.mem_of_mem_take hx)
theorem Dg.drop {a : List Int} (h : Dg a) (n : Nat) : Dg (a.drop n) := fun x hx => h x (List.mem_of_mem_drop hx)
theorem Dg.zeros (n : Nat) : Dg (List.replicate n 0) := fun x hx => by
  obtain ⟨_, rfl⟩ := List.mem_replicate.1 hx; omega
theorem Dg.getD {a : List Int} (h : Dg a) (n : Nat) : 0 ≤ a.getD n 0 ∧ a.getD n 0 < 4294967296 := by
  rw [List.getD_eq_getElem?_getD]
  cases e : a[n]? with
  | none => simp
  | some x => simpa using h x (List.mem_of_getElem? e)
theorem Dg.set {a : List Int} (h : Dg a) (n : Nat) {x : Int} (h0 : 0 ≤ x) (h1 : x < 4294967296) : Dg (a.set n x) := fun y hy => by
  rcases List.mem_or_eq_of_mem_set hy with hy | rfl
  · exact h y hy
  · exact ⟨h0, h1⟩
@[simp] theorem V_nil : V [] = 0 := rfl
@[simp] theorem V_cons (d : Int) (l : List Int) : V (d :: l) = d.toNat + 4294967296 * V l := rfl
theorem V_append (a b : List Int) : V (a ++ b) = V a + 4294967296 ^ a.length * V b := by
  induction a with
  | nil => simp
  | cons d a ih => simp [ih, Nat.pow_succ]; grind
theorem V_zeros (n : Nat) : V (List.replicate n 0) = 0 := by
  induction n with
  | zero => rfl
  | succ n ih => simp [List.replicate_succ, ih]
theorem V_lt {l : List Int} (h : Dg l) : V l < 4294967296 ^ l.length := by
  induction l with
  | nil => simp
  | cons d l ih =>
    have := ih h.tail; have := h.head
    simp only [V_cons, List.length_cons, Nat.pow_succ]
    omega
theorem D_zero : D 0 = [] := by unfold D; simp
theorem D_pos {n : Nat} (h : n ≠ 0) : D n = ((n % 4294967296 : Nat) : Int) :: D (n / 4294967296) := by
  conv => lhs; unfold D
  simp [h]
theorem V_D (n : Nat) : V (D n) = n := by
  induction n using Nat.strongRecOn with
  | _ n ih =>
    by_cases h : n = 0
    · subst h; simp [D_zero]
    · rw [D_pos h, V_cons, ih _ (by omega)]; omega
theorem Dg_D (n : Nat) : Dg (D n) := by
  induction n using Nat.strongRecOn with
  | _ n ih =>
    by_cases h : n = 0
    · subst h; rw [D_zero]; exact Dg.nil
    · rw [D_pos h]; exact Dg.cons (by omega) (by omega) (ih _ (by omega))
theorem D_cons {d : Int} {n : Nat} (h0 : 0 ≤ d) (h1 : d < 4294967296) (h : d ≠ 0 ∨ n ≠ 0) : D (d.toNat + 4294967296 * n) = d :: D n := by
  rw [D_pos (by omega)]
  congr 1
  · omega
  · congr 1; omega
theorem D_inj {a b : Nat} (h : D a = D b) : a = b := by rw [← V_D a, h, V_D]
/-- a list that is a number's: no nought at the high end -/
def Nm (l : List Int) : Prop := D (V l) = l
instance (l : List Int) : Decidable (Nm l) := inferInstanceAs (Decidable (D (V l) = l))
theorem Nm.dg {l : List Int} (h : Nm l) : Dg l := h ▸ Dg_D _
theorem Nm_D (n : Nat) : Nm (D n) := by unfold Nm; rw [V_D]
theorem Nm_nil : Nm [] := by unfold Nm; exact D_zero
theorem Nm.inj {a b : List Int} (h : Nm a) (k : Nm b) (e : V a = V b) : a = b := by rw [← h, e, k]
theorem V_eq_zero {l : List Int} (h : Nm l) : V l = 0 ↔ l = [] := by
  constructor
  · intro e; rw [← h, e, D_zero]
  · rintro rfl; rfl
theorem Nm_snoc {l : List Int} {d : Int} (h : Dg l) (h0 : 0 < d) (h1 : d < 4294967296) : Nm (l ++ [d]) := by
  unfold Nm
  induction l with
  | nil =>
    have := D_cons (d := d) (n := 0) (by omega) h1 (by omega)
    simpa [D_zero] using this
  | cons x l ih =>
    have hx := h.head
    rw [List.cons_append, V_cons, D_cons hx.1 hx.2, ih h.tail]
    right; rw [V_append]
    have : 0 < 4294967296 ^ l.length := Nat.pow_pos (by omega)
    have : 0 < 4294967296 ^ l.length * V [d] := Nat.mul_pos this (by simp; omega)
    omega
theorem V_snoc_zero (l : List Int) : V (l ++ [0]) = V l := by rw [V_append]; simp
theorem D_len_le {l : List Int} (h : Dg l) : (D (V l)).length ≤ l.length := by
  induction l with
  | nil => simp [D_zero]
  | cons x l ih =>
    have hx := h.head
    by_cases e : x ≠ 0 ∨ V l ≠ 0
    · rw [V_cons, D_cons hx.1 hx.2 e]; simpa using ih h.tail
    · have h1 : x = 0 := by omega
      have h2 : V l = 0 := by omega
      simp [h1, h2, D_zero]
theorem Nm_last {l : List Int} {d : Int} (h : Nm (l ++ [d])) : d ≠ 0 := by
  intro e; subst e
  have h2 := D_len_le h.dg.left
  have h3 : D (V (l ++ [0])) = l ++ [0] := h
  rw [V_snoc_zero] at h3
  rw [h3] at h2
  simp at h2
  omega
theorem Nm_iff {l : List Int} (h : Dg l) : Nm l ↔ l = [] ∨ l.getD (l.length - 1) 0 ≠ 0 := by
  rcases List.eq_nil_or_concat l with rfl | ⟨a, d, rfl⟩
  · simp [Nm_nil]
  · rw [List.concat_eq_append] at h ⊢
    have : (a ++ [d]).getD ((a ++ [d]).length - 1) 0 = d := by simp
    rw [this]
    constructor
    · intro k; exact .inr (Nm_last k)
    · rintro (k | k)
      · simp at k
      · have := h d (by simp)
        exact Nm_snoc h.left (by omega) this.2
theorem D_len_lt {n k : Nat} (h : n < 4294967296 ^ k) : (D n).length ≤ k := by
  induction k generalizing n with
  | zero => have : n = 0 := by simpa using h
            subst this; simp [D_zero]
  | succ k ih =>
    by_cases e : n = 0
    · subst e; simp [D_zero]
    · rw [D_pos e, List.length_cons]
      have := ih (n := n / 4294967296) (by rw [Nat.pow_succ] at h; omega)
      omega
theorem lt_D_len (n : Nat) : n < 4294967296 ^ (D n).length := by
  have := V_lt (Dg_D n); rwa [V_D] at this
theorem D_len_ge {n : Nat} (h : n ≠ 0) : 4294967296 ^ ((D n).length - 1) ≤ n := by
  apply Nat.le_of_not_lt
  intro k
  have := D_len_lt k
  have : (D n).length ≠ 0 := by rw [D_pos h]; simp
  omega
theorem D_len_mono {a b : Nat} (h : a ≤ b) : (D a).length ≤ (D b).length :=
  D_len_lt (Nat.lt_of_le_of_lt h (lt_D_len b))
theorem lt_of_D_len {a b : Nat} (h : (D a).length < (D b).length) : a < b := by
  apply Nat.lt_of_not_le
  intro k
  have := D_len_mono k
  omega
theorem Nm.len {l : List Int} (h : Nm l) : (D (V l)).length = l.length := by rw [h]
theorem Nm.lt_of_len {a b : List Int} (h : Nm a) (k : Nm b) (e : a.length < b.length) : V a < V b := by
  apply lt_of_D_len; rw [h, k]; exact e
end Go.Proofs.YtclegbgmhimenaaDoor.Eng.K

/- The first layer's plain functions: trimmed lists, comparisons, sums and differences are the numbers' own. -/
set_option linter.unusedVariables false
set_option linter.unusedSimpArgs false
namespace Go.Proofs.YtclegbgmhimenaaDoor.Eng.K
open Go.RowKit

theorem w64s {n : Nat} (h : n < 4611686018427387904) : wrap64 ((n : Int) + 1) = ((n + 1 : Nat) : Int) := by unfold wrap64; omega
theorem w64p {n : Nat} (h : n < 4611686018427387904) : wrap64 (((n + 1 : Nat) : Int) - 1) = (n : Int) := by unfold wrap64; omega

/-! ### trimmed -/
theorem trim_ev : ∀ (n : Nat) (l : List Int), l.length = n → Dg l → n < 4611686018427387904 → Ev (fun k => nat_trim.f k l) (D (V l))
  | 0, l, hn, hd, hb => by
    have : l = [] := List.eq_nil_of_length_eq_zero hn
    subst this
    refine ev_step (ev_const ?_)
    simp [nat_trim.f, nat_trim.l0, D_zero]
  | n + 1, l, hn, hd, hb => by
    rcases List.eq_nil_or_concat l with rfl | ⟨a, d, rfl⟩
    · simp at hn
    rw [List.concat_eq_append] at hn hd ⊢
    have hl : (a ++ [d]).length = n + 1 := hn
    have ha : a.length = n := by simpa using hn
    refine ev_step ?_
    show Ev (fun k => nat_trim.l0 (k + 1) (a ++ [d])) _
    simp only [nat_trim.l0, hl, w64p (n := n) (by omega)]
    refine ev_pos (by omega) (ev_pos (by omega) (ev_pos (by omega) ?_))
    rw [rd_app (by omega)]
    by_cases h0 : d = 0
    · subst h0
      refine ev_pos rfl (ev_pos (by omega) ?_)
      rw [V_snoc_zero]
      have : (a ++ [(0 : Int)]).take (n : Int).toNat = a := by simp [← ha]
      rw [this]
      exact ev_pos (by omega) (trim_ev n a ha hd.left (by omega))
    · refine ev_neg h0 ?_
      have := hd d (by simp)
      rw [Nm_snoc hd.left (by omega) this.2]
      exact Ev.now _
theorem nat_trim_ev {l : List Int} (hd : Dg l) (hb : l.length < 4611686018427387904) : Ev (fun k => nat_trim.f k l) (D (V l)) := trim_ev _ l rfl hd hb
theorem V_two (n : Int) (h0 : 0 ≤ n) (h1 : n < 18446744073709551616) : V [n % 4294967296, (n / 4294967296) % 4294967296] = n.toNat := by
  simp; omega
theorem Dg_two (n : Int) : Dg [n % 4294967296, (n / 4294967296) % 4294967296] := Dg.cons (by omega) (by omega) (Dg.cons (by omega) (by omega) Dg.nil)
theorem nat_Of_ev {n : Int} (h0 : 0 ≤ n) (h1 : n < 18446744073709551616) : Ev (fun k => nat_Of.f k n) (D n.toNat) := by
  unfold nat_Of.f
  refine Ev.bind (nat_trim_ev (Dg_two n) (by simp)) ?_
  rw [V_two n h0 h1]; exact Ev.now _
/-! ### the same digits -/
/-! ### which lists are numbers -/
def may (l : List Int) : Bool := decide (l.length ≤ 4096) && decide (Nm l)
theorem may_iff {l : List Int} : may l = true ↔ l.length ≤ 4096 ∧ Nm l := by simp [may]
theorem nat_May_eq {l : List Int} (h : Dg l) (hb : l.length < 4611686018427387904) : nat_May.f l = some (may l) := by
  unfold nat_May.f may
  by_cases h1 : l.length ≤ 4096
  · rw [if_pos (by omega)]
    by_cases h2 : l.length = 0
    · have : l = [] := List.eq_nil_of_length_eq_zero h2
      subst this; simp [Nm_nil]
    · rw [if_neg (by omega)]
      have e : wrap64 ((l.length : Int) - 1) = ((l.length - 1 : Nat) : Int) := by unfold wrap64; omega
      rw [e, if_pos (by omega), if_pos (by omega), rdn]
      have h3 : l ≠ [] := fun e => h2 (by rw [e]; rfl)
      have h4 := Nm_iff h
      by_cases h5 : l.getD (l.length - 1) 0 = 0
      · have : ¬ Nm l := fun k => by rcases h4.1 k with k | k <;> contradiction
        rw [h5]; simp [this]
      · have : Nm l := h4.2 (.inr h5)
        simp only [h5, not_false_eq_true, decide_true]; simp [h1, this]
  · rw [if_neg (by omega)]; simp [h1]
theorem all2_ev {a b : List Int} (ha : Dg a) (hb : Dg b) (la : a.length < 4611686018427387904) (lb : b.length < 4611686018427387904) : Ev (fun k => nat_all.f k [a, b]) (may a && may b) := by
  unfold nat_all.f
  refine ev_step ?_
  simp only [nat_all.l0]
  refine ev_pos (by simp) (ev_pos (by omega) (ev_pos (by simp) ?_))
  have e0 : rdT [.is .u32] [a, b] 0 = a := rfl
  have e1 : rdT [.is .u32] [a, b] 1 = b := rfl
  rw [e0]
  refine ev_bind (nat_May_eq ha la) ?_
  cases may a with
  | false => exact ev_pos (by simp) (Ev.now _)
  | true =>
    refine ev_neg (by simp) ?_
    have w1 : wrap64 (0 + 1) = 1 := by unfold wrap64; omega
    have w2 : wrap64 (1 + 1) = 2 := by unfold wrap64; omega
    rw [w1]
    refine ev_step ?_
    simp only [nat_all.l0]
    refine ev_pos (by simp) (ev_pos (by omega) (ev_pos (by simp) ?_))
    rw [e1]
    refine ev_bind (nat_May_eq hb lb) ?_
    cases may b with
    | false => exact ev_pos (by simp) (Ev.now _)
    | true =>
      refine ev_neg (by simp) ?_
      rw [w2]
      refine ev_step ?_
      simp only [nat_all.l0]
      exact ev_neg (by simp) (Ev.now _)
/-! ### sums -/
theorem add32_eq {x y c : Int} (hx : 0 ≤ x ∧ x < 4294967296) (hy : 0 ≤ y ∧ y < 4294967296) (hc : 0 ≤ c ∧ c < 4294967296) : bits_Add32.f x y c = some ((x + y + c) % 4294967296, (x + y + c) / 4294967296) := by
  unfold bits_Add32.f
  rw [u64 hx.1 (by omega), u64 hy.1 (by omega), u64 hc.1 (by omega), u64 (n := x + y) (by omega) (by omega), u64 (by omega) (by omega)]
  have : (x + y + c) / 4294967296 % 4294967296 = (x + y + c) / 4294967296 := by omega
  rw [this]
theorem Dg.headD {b : List Int} (h : Dg b) : 0 ≤ b.headD 0 ∧ b.headD 0 < 4294967296 := by
  cases b with
  | nil => simp
  | cons y b => exact h.head
theorem Dg.tl {b : List Int} (h : Dg b) : Dg b.tail := by
  cases b with
  | nil => exact h
  | cons y b => exact h.tail
theorem V_headtail (b : List Int) : V b = (b.headD 0).toNat + 4294967296 * V b.tail := by
  cases b <;> simp
theorem drop_headD (b : List Int) (n : Nat) : (b.drop n).headD 0 = b.getD n 0 := by
  rw [List.headD_eq_head?_getD, List.head?_drop, List.getD_eq_getElem?_getD]
end Go.Proofs.YtclegbgmhimenaaDoor.Eng.K

/- The first layer's plain functions: comparisons and differences; a number's value. -/
set_option linter.unusedVariables false
set_option linter.unusedSimpArgs false
namespace Go.Proofs.YtclegbgmhimenaaDoor.Eng.K
open Go.RowKit

/-! ### which is above which -/
def cmpN (m n : Nat) : Int := if m < n then -1 else if n < m then 1 else 0
theorem V_take_succ {l : List Int} {n : Nat} (h : n < l.length) : V (l.take (n + 1)) = V (l.take n) + 4294967296 ^ n * (l.getD n 0).toNat := by
  rw [List.take_succ_eq_append_getElem h, V_append]
  simp [Nat.min_eq_left (Nat.le_of_lt h), h]
theorem top_lt {p q P d e : Nat} (hp : p < P) (h : d < e) : p + P * d < q + P * e := by
  have : P * (d + 1) ≤ P * e := Nat.mul_le_mul_left _ h
  rw [Nat.mul_add] at this
  omega
theorem V_take_lt {l : List Int} (h : Dg l) {n : Nat} (hn : n ≤ l.length) : V (l.take n) < 4294967296 ^ n := by
  have := V_lt (h.take n); rwa [List.length_take, Nat.min_eq_left hn] at this
theorem cmp_top {x y : List Int} (hx : Dg x) (hy : Dg y) {n : Nat} (h1 : n < x.length) (h2 : n < y.length) :
    cmpN (V (x.take (n + 1))) (V (y.take (n + 1))) = if x.getD n 0 = y.getD n 0 then cmpN (V (x.take n)) (V (y.take n)) else if x.getD n 0 < y.getD n 0 then -1 else 1 := by
  rw [V_take_succ h1, V_take_succ h2]
  have a := hx.getD n
  have b := hy.getD n
  have p := V_take_lt hx (Nat.le_of_lt h1)
  have q := V_take_lt hy (Nat.le_of_lt h2)
  by_cases e : x.getD n 0 = y.getD n 0
  · rw [if_pos e, e]; unfold cmpN; simp
  · rw [if_neg e]
    by_cases c : x.getD n 0 < y.getD n 0
    · rw [if_pos c]
      have := top_lt (q := V (y.take n)) p (show (x.getD n 0).toNat < (y.getD n 0).toNat by omega)
      unfold cmpN; rw [if_pos this]
    · rw [if_neg c]
      have := top_lt (q := V (x.take n)) q (show (y.getD n 0).toNat < (x.getD n 0).toNat by omega)
      unfold cmpN; rw [if_neg (by omega), if_pos this]
theorem w64m {n : Nat} (h : n < 4611686018427387904) : wrap64 ((n : Int) - 1) = (n : Int) - 1 := by unfold wrap64; omega
theorem cmp_l0 {x y : List Int} (hx : Dg x) (hy : Dg y) (hb : x.length < 4611686018427387904) : ∀ (n : Nat), n ≤ x.length → n ≤ y.length → Ev (fun k => nat_cmp.l0 k x y ((n : Int) - 1)) (cmpN (V (x.take n)) (V (y.take n)))
  | 0, _, _ => by
    refine ev_step ?_
    simp only [nat_cmp.l0]
    (repeat (first | (with_reducible refine ev_pos ?_ ?_; focus (first | omega | assumption | (simp; done) | (simp; omega))) | (with_reducible refine ev_neg ?_ ?_; focus (first | omega | assumption | (simp; done) | (simp; omega))))); exact Ev.now _
  | n + 1, h1, h2 => by
    refine ev_step ?_
    simp only [nat_cmp.l0]
    have e : ((n + 1 : Nat) : Int) - 1 = (n : Int) := by omega
    rw [e, w64m (n := n) (by omega)]
    (repeat (first | (with_reducible refine ev_pos ?_ ?_; focus (first | omega | assumption | (simp; done) | (simp; omega))) | (with_reducible refine ev_neg ?_ ?_; focus (first | omega | assumption | (simp; done) | (simp; omega)))))
    rw [cmp_top hx hy (by omega) (by omega), rdn, rdn]
    by_cases c : x.getD n 0 = y.getD n 0
    · (repeat (first | (with_reducible refine ev_pos ?_ ?_; focus (first | omega | assumption | (simp; done) | (simp; omega))) | (with_reducible refine ev_neg ?_ ?_; focus (first | omega | assumption | (simp; done) | (simp; omega)))))
      rw [if_pos c]
      exact cmp_l0 hx hy hb n (by omega) (by omega)
    · (repeat (first | (with_reducible refine ev_pos ?_ ?_; focus (first | omega | assumption | (simp; done) | (simp; omega))) | (with_reducible refine ev_neg ?_ ?_; focus (first | omega | assumption | (simp; done) | (simp; omega)))))
      rw [if_neg c]
      by_cases c2 : x.getD n 0 < y.getD n 0
      · (repeat (first | (with_reducible refine ev_pos ?_ ?_; focus (first | omega | assumption | (simp; done) | (simp; omega))) | (with_reducible refine ev_neg ?_ ?_; focus (first | omega | assumption | (simp; done) | (simp; omega)))))
        rw [if_pos c2]; exact Ev.now _
      · (repeat (first | (with_reducible refine ev_pos ?_ ?_; focus (first | omega | assumption | (simp; done) | (simp; omega))) | (with_reducible refine ev_neg ?_ ?_; focus (first | omega | assumption | (simp; done) | (simp; omega)))))
        rw [if_neg c2]; exact Ev.now _
theorem nat_cmp_ev {x y : List Int} (hx : Nm x) (hy : Nm y) (hb : x.length < 4611686018427387904) : Ev (fun k => nat_cmp.f k x y) (cmpN (V x) (V y)) := by
  unfold nat_cmp.f
  by_cases c : x.length < y.length
  · (repeat (first | (with_reducible refine ev_pos ?_ ?_; focus (first | omega | assumption | (simp; done) | (simp; omega))) | (with_reducible refine ev_neg ?_ ?_; focus (first | omega | assumption | (simp; done) | (simp; omega)))))
    unfold cmpN; rw [if_pos (hx.lt_of_len hy c)]; exact Ev.now _
  · (repeat (first | (with_reducible refine ev_pos ?_ ?_; focus (first | omega | assumption | (simp; done) | (simp; omega))) | (with_reducible refine ev_neg ?_ ?_; focus (first | omega | assumption | (simp; done) | (simp; omega)))))
    by_cases c2 : y.length < x.length
    · (repeat (first | (with_reducible refine ev_pos ?_ ?_; focus (first | omega | assumption | (simp; done) | (simp; omega))) | (with_reducible refine ev_neg ?_ ?_; focus (first | omega | assumption | (simp; done) | (simp; omega)))))
      have := hy.lt_of_len hx c2
      unfold cmpN; rw [if_neg (by omega), if_pos this]; exact Ev.now _
    · (repeat (first | (with_reducible refine ev_pos ?_ ?_; focus (first | omega | assumption | (simp; done) | (simp; omega))) | (with_reducible refine ev_neg ?_ ?_; focus (first | omega | assumption | (simp; done) | (simp; omega)))))
      have e : x.length = y.length := by omega
      rw [w64m (by omega)]
      have := cmp_l0 hx.dg hy.dg hb x.length (by omega) (by omega)
      rwa [List.take_length, e, List.take_length, ← e] at this
theorem nat_Cmp_ev {a b : List Int} (ha : Nm a) (hb : Nm b) (la : a.length ≤ 4096) (lb : b.length ≤ 4096) : Ev (fun k => nat_Cmp.f k a b) (cmpN (V a) (V b), 0) := by
  unfold nat_Cmp.f
  refine Ev.bind (all2_ev ha.dg hb.dg (by omega) (by omega)) ?_
  have h1 : may a = true := may_iff.2 ⟨la, ha⟩
  have h2 : may b = true := may_iff.2 ⟨lb, hb⟩
  refine ev_neg (by simp [h1, h2]) (Ev.bind (nat_cmp_ev ha hb (by omega)) ?_)
  exact Ev.now _
/-! ### differences -/
theorem half (n : Nat) : n >>> 31 = n / 2147483648 := by rw [Nat.shiftRight_eq_div_pow]
theorem bit_cases {n : Nat} (h : n < 4294967296) : n / 2147483648 = 0 ∨ n / 2147483648 = 1 := by omega
theorem borrow_eq {x y d : Nat} (hx : x < 4294967296) (hy : y < 4294967296) (hd : d < 4294967296) :
    ((((4294967295 ^^^ x) &&& y) ||| ((4294967295 ^^^ (x ^^^ y)) &&& d)) / 2147483648 : Nat) =
      if x / 2147483648 = 0 then (if y / 2147483648 = 0 then d / 2147483648 else 1) else (if y / 2147483648 = 0 then 0 else d / 2147483648) := by
  rw [← half, ← half, ← half, ← half, Nat.shiftRight_or_distrib, Nat.shiftRight_and_distrib, Nat.shiftRight_and_distrib, Nat.shiftRight_xor_distrib, Nat.shiftRight_xor_distrib, Nat.shiftRight_xor_distrib]
  simp only [half]
  have e : 4294967295 / 2147483648 = 1 := by decide
  rw [e]
  rcases bit_cases hx with h1 | h1 <;> rcases bit_cases hy with h2 | h2 <;> rcases bit_cases hd with h3 | h3 <;> rw [h1, h2, h3] <;> decide
theorem sub32_eq {x y c : Int} (hx : 0 ≤ x ∧ x < 4294967296) (hy : 0 ≤ y ∧ y < 4294967296) (hc : 0 ≤ c ∧ c ≤ 1) : bits_Sub32.f x y c = some ((x - y - c) % 4294967296, if x < y + c then 1 else 0) := by
  unfold bits_Sub32.f
  have hd : ((x - y) % 4294967296 - c) % 4294967296 = (x - y - c) % 4294967296 := by omega
  rw [hd]
  obtain ⟨X, rfl⟩ := Int.eq_ofNat_of_zero_le hx.1
  obtain ⟨Y, rfl⟩ := Int.eq_ofNat_of_zero_le hy.1
  obtain ⟨Z, hZ⟩ := Int.eq_ofNat_of_zero_le (show 0 ≤ ((X : Int) - Y - c) % 4294967296 by omega)
  have hZl : Z < 4294967296 := by omega
  have h1 : 4294967295 ^^^ X < 4294967296 := Nat.xor_lt_two_pow (n := 32) (by omega) (by omega)
  have h2 : X ^^^ Y < 4294967296 := Nat.xor_lt_two_pow (n := 32) (by omega) (by omega)
  have h3 : 4294967295 ^^^ (X ^^^ Y) < 4294967296 := Nat.xor_lt_two_pow (n := 32) (by omega) (by omega)
  have h4 : (4294967295 ^^^ X) &&& Y < 4294967296 := Nat.and_lt_two_pow (n := 32) _ (by omega)
  have h5 : (4294967295 ^^^ (X ^^^ Y)) &&& Z < 4294967296 := Nat.and_lt_two_pow (n := 32) _ (by omega)
  have e : (4294967295 : Int) = ((4294967295 : Nat) : Int) := rfl
  rw [hZ, e, u32_xor_nat _ _ (by omega) (by omega), u32_and_nat _ _ h1 (by omega), u32_xor_nat _ _ (by omega) (by omega), u32_xor_nat _ _ (by omega) h2, u32_and_nat _ _ h3 hZl, u32_or_nat _ _ h4 h5]
  have b := borrow_eq (x := X) (y := Y) (d := Z) (by omega) (by omega) hZl
  have : (((((4294967295 ^^^ X) &&& Y ||| (4294967295 ^^^ (X ^^^ Y)) &&& Z : Nat) : Int)) / 2147483648) = (((((4294967295 ^^^ X) &&& Y ||| (4294967295 ^^^ (X ^^^ Y)) &&& Z) / 2147483648 : Nat)) : Int) := by omega
  rw [this, b]
  congr 2
  by_cases c1 : X / 2147483648 = 0 <;> by_cases c2 : Y / 2147483648 = 0 <;> simp only [c1, c2, if_true, if_false] <;> by_cases c3 : (X : Int) < Y + c <;> simp only [c3, if_true, if_false] <;> omega
def subRec : List Int → List Int → Int → List Int
  | [], _, _ => []
  | x :: a, b, c => ((x - b.headD 0 - c) % 4294967296) :: subRec a b.tail (if x < b.headD 0 + c then 1 else 0)
theorem subRec_V {a b : List Int} {c : Int} (ha : Dg a) (hb : Dg b) (hc : 0 ≤ c ∧ c ≤ 1) (hl : b.length ≤ a.length) (h : V b + c.toNat ≤ V a) : V (subRec a b c) = V a - V b - c.toNat ∧ Dg (subRec a b c) := by
  induction a generalizing b c with
  | nil =>
    have : b = [] := List.eq_nil_of_length_eq_zero (by simpa using hl)
    subst this
    exact ⟨by simp [subRec], Dg.nil⟩
  | cons x a ih =>
    have hx := ha.head
    have hy := hb.headD
    rw [V_headtail b, V_cons] at h
    have := ih (b := b.tail) (c := if x < b.headD 0 + c then 1 else 0) ha.tail hb.tl (by split <;> omega) (by simp at hl ⊢; omega) (by split <;> omega)
    refine ⟨?_, Dg.cons (by omega) (by omega) this.2⟩
    rw [subRec, V_cons, this.1, V_headtail b, V_cons]
    split <;> omega
theorem sub_l0 (A Bl : List Int) (hA : Dg A) (hB : Dg Bl) (hl : A.length < 1152921504606846976) : ∀ (a done r : List Int) (c : Int) (pa : List Int), A = pa ++ a → done.length = pa.length → r.length = a.length → 0 ≤ c ∧ c ≤ 1 → Dg done →
    Ev (fun k => nat_sub.l0 k A Bl (done ++ r) c A.length done.length) (D (V (done ++ subRec a (Bl.drop done.length) c)))
  | [], done, r, c, pa, he, hd, hr, hc, hg => by
    have : r = [] := List.eq_nil_of_length_eq_zero hr
    subst this
    have hlen : A.length = done.length := by rw [he, hd]; simp
    refine ev_step ?_
    simp only [nat_sub.l0]
    (repeat (first | (with_reducible refine ev_pos ?_ ?_; focus (first | omega | assumption | (simp; done) | (simp; omega))) | (with_reducible refine ev_neg ?_ ?_; focus (first | omega | assumption | (simp; done) | (simp; omega)))))
    refine Ev.bind (nat_trim_ev (hg.app Dg.nil) (by simp; omega)) ?_
    exact Ev.now _
  | x :: a, done, r, c, pa, he, hd, hr, hc, hg => by
    obtain ⟨y, r, rfl⟩ : ∃ y r', r = y :: r' := by
      match r, hr with
      | y :: r', _ => exact ⟨y, r', rfl⟩
    have hlen : A.length = done.length + 1 + a.length := by rw [he, hd]; simp; omega
    refine ev_step ?_
    simp only [nat_sub.l0, w64s (n := done.length) (by omega)]
    (repeat (first | (with_reducible refine ev_pos ?_ ?_; focus (first | omega | assumption | (simp; done) | (simp; omega))) | (with_reducible refine ev_neg ?_ ?_; focus (first | omega | assumption | (simp; done) | (simp; omega)))))
    have hx : rd A (done.length : Int) = x := by rw [he]; exact rd_app (by omega)
    have hxr : 0 ≤ x ∧ x < 4294967296 := by rw [he] at hA; exact hA.right.head
    have hyr := (hB.drop done.length).headD
    have key : ∀ z, z = (Bl.drop done.length).headD 0 → Ev (fun k => (bits_Sub32.f x z c).bind fun bt => if (done.length : Int) < ((done ++ y :: r).length : Int) then nat_sub.l0 k A Bl ((done ++ y :: r).set (done.length : Int).toNat bt.1) bt.2 A.length ((done.length + 1 : Nat) : Int) else none) (D (V (done ++ subRec (x :: a) (Bl.drop done.length) c))) := by
      rintro z rfl
      refine ev_bind (sub32_eq hxr hyr hc) ?_
      (repeat (first | (with_reducible refine ev_pos ?_ ?_; focus (first | omega | assumption | (simp; done) | (simp; omega))) | (with_reducible refine ev_neg ?_ ?_; focus (first | omega | assumption | (simp; done) | (simp; omega)))))
      rw [set_app rfl]
      have := sub_l0 A Bl hA hB hl a (done ++ [(x - (Bl.drop done.length).headD 0 - c) % 4294967296]) r (if x < (Bl.drop done.length).headD 0 + c then 1 else 0) (pa ++ [x]) (by rw [he]; simp) (by simp [hd]) (by simpa using hr) (by split <;> omega) (hg.app (Dg.cons (by omega) (by omega) Dg.nil))
      rw [List.length_append, List.length_singleton] at this
      refine ev_eq this ?_
      rw [subRec, List.tail_drop]; simp
    have jn : ∀ z, z = (Bl.drop done.length).headD 0 → Ev (fun n => nat_sub.j1 n A Bl (done ++ y :: r) c (done.length : Int) z A.length (done.length : Int)) (D (V (done ++ subRec (x :: a) (Bl.drop done.length) c))) := by
      intro z hz
      refine ev_step ?_
      simp only [nat_sub.j1, w64s (n := done.length) (by omega)]
      (repeat (first | (with_reducible refine ev_pos ?_ ?_; focus (first | omega | assumption | (simp; done) | (simp; omega))) | (with_reducible refine ev_neg ?_ ?_; focus (first | omega | assumption | (simp; done) | (simp; omega)))))
      rw [hx]
      have h0 : (0 : Int) ≤ (done.length : Int) := by omega
      have := key z hz
      simp only [h0, if_true]
      exact this
    by_cases hb : (done.length : Int) < (Bl.length : Int)
    · (repeat (first | (with_reducible refine ev_pos ?_ ?_; focus (first | omega | assumption | (simp; done) | (simp; omega))) | (with_reducible refine ev_neg ?_ ?_; focus (first | omega | assumption | (simp; done) | (simp; omega)))))
      exact jn _ (by rw [drop_headD, rdn])
    · (repeat (first | (with_reducible refine ev_pos ?_ ?_; focus (first | omega | assumption | (simp; done) | (simp; omega))) | (with_reducible refine ev_neg ?_ ?_; focus (first | omega | assumption | (simp; done) | (simp; omega)))))
      exact jn 0 (by rw [List.drop_eq_nil_of_le (by omega)]; rfl)
theorem nat_sub_ev {a b : List Int} (ha : Nm a) (hb : Nm b) (la : a.length ≤ 1000000) (h : V b ≤ V a) : Ev (fun k => nat_sub.f k a b) (D (V a - V b)) := by
  unfold nat_sub.f
  (repeat (first | (with_reducible refine ev_pos ?_ ?_; focus (first | omega | assumption | (simp; done) | (simp; omega))) | (with_reducible refine ev_neg ?_ ?_; focus (first | omega | assumption | (simp; done) | (simp; omega)))))
  have hl : b.length ≤ a.length := by rw [← ha.len, ← hb.len]; exact D_len_mono h
  have := sub_l0 a b ha.dg hb.dg (by omega) a [] (List.replicate a.length 0) 0 [] rfl rfl (by simp) (by omega) Dg.nil
  refine ev_eq this ?_
  have h2 := subRec_V ha.dg hb.dg (c := 0) (by omega) hl (by simpa using h)
  simp [h2.1]
def subR (m n : Nat) : List Int × Int := if m < n then ([], 10) else (D (m - n), 0)
theorem nat_Sub_ev {a b : List Int} (ha : Nm a) (hb : Nm b) (la : a.length ≤ 4096) (lb : b.length ≤ 4096) : Ev (fun k => nat_Sub.f k a b) (subR (V a) (V b)) := by
  unfold nat_Sub.f subR
  refine Ev.bind (all2_ev ha.dg hb.dg (by omega) (by omega)) ?_
  have h1 : may a = true := may_iff.2 ⟨la, ha⟩
  have h2 : may b = true := may_iff.2 ⟨lb, hb⟩
  refine ev_neg (by simp [h1, h2]) (Ev.bind (nat_cmp_ev ha hb (by omega)) ?_)
  by_cases c : V a < V b
  · rw [if_pos c]
    refine ev_pos ?_ (Ev.now _)
    unfold cmpN; rw [if_pos c]; decide
  · rw [if_neg c]
    refine ev_neg ?_ (Ev.bind (nat_sub_ev ha hb (by omega) (by omega)) (Ev.now _))
    unfold cmpN; rw [if_neg c]; split <;> decide
/-! ### the references' sums and differences: appended digit by digit -/
end Go.Proofs.YtclegbgmhimenaaDoor.Eng.K

/- The first layer's plain functions: products. -/
set_option linter.unusedVariables false
set_option linter.unusedSimpArgs false
namespace Go.Proofs.YtclegbgmhimenaaDoor.Eng.K
open Go.RowKit

theorem D_len_pos {l : List Int} (h : Nm l) (h0 : l ≠ []) : 4294967296 ^ (l.length - 1) ≤ V l := by
  have h1 : V l ≠ 0 := fun e => h0 ((V_eq_zero h).1 e)
  have := D_len_ge h1
  rwa [h.len] at this
def conv : List Int → List Int → Nat → Nat
  | [], _, _ => 0
  | x :: _, b, 0 => x.toNat * (b.getD 0 0).toNat
  | x :: a, b, k + 1 => x.toNat * (b.getD (k + 1) 0).toNat + conv a b k
end Go.Proofs.YtclegbgmhimenaaDoor.Eng.K

/- The first layer's statements: what they share. -/
set_option linter.unusedVariables false
set_option linter.unusedSimpArgs false
namespace Go.Proofs.YtclegbgmhimenaaDoor.Eng.K
open Go.RowKit

theorem V_bd {l : List Int} (h : Dg l) {n : Nat} (hn : l.length ≤ n) : V l < 4294967296 ^ n := Nat.lt_of_lt_of_le (V_lt h) (Nat.pow_le_pow_right (by omega) hn)
/-! ### a number's value as a word -/
theorem or_u64_disjoint {x y : Int} (h0 : 0 ≤ x ∧ x < 4294967296) (h1 : 0 ≤ y ∧ y < 4294967296) : Go.bits .or .u64 x (y * 4294967296) = x + y * 4294967296 := by
  obtain ⟨X, rfl⟩ := Int.eq_ofNat_of_zero_le h0.1
  obtain ⟨Y, rfl⟩ := Int.eq_ofNat_of_zero_le h1.1
  have e : (Y : Int) * 4294967296 = ((2 ^ 32 * Y : Nat) : Int) := by omega
  rw [e, u64_or_nat _ _ (by omega) (by omega), Nat.or_comm, ← Nat.two_pow_add_eq_or_of_lt (by omega)]
  omega
theorem shl_zero {d : Int} (h : 0 ≤ d ∧ d < 4294967296) : shl .u64 d 0 = d := by
  unfold shl; simp; exact u64 h.1 (by omega)
theorem shl_32 {d : Int} (h : 0 ≤ d ∧ d < 4294967296) : shl .u64 d 32 = d * 4294967296 := by
  unfold shl
  have e : min (32 : Int).toNat IntKind.u64.bits = 32 := by decide
  rw [e, show (2 : Int) ^ 32 = 4294967296 from rfl, u64 (by omega) (by omega)]
def numB (l : List Int) : Bool := may l && decide (l.length ≤ 2)
theorem nat_Num_ev {l : List Int} (h : Dg l) (hb : l.length < 4611686018427387904) : Ev (fun k => nat_Num.f k l) (if numB l then ((V l : Nat) : Int) else 0, numB l) := by
  unfold nat_Num.f
  refine ev_bind (nat_May_eq h hb) ?_
  have no : numB l = false → Ev (fun _ : Nat => some ((0 : Int), false)) (if numB l then ((V l : Nat) : Int) else 0, numB l) := by
    intro e
    rw [e]
    exact Ev.now _
  by_cases c1 : may l = true
  · rw [c1]
    (repeat (first | (with_reducible refine ev_pos ?_ ?_; focus (first | omega | assumption | (simp; done) | (simp; omega))) | (with_reducible refine ev_neg ?_ ?_; focus (first | omega | assumption | (simp; done) | (simp; omega)))))
    by_cases c2 : l.length > 2
    · (repeat (first | (with_reducible refine ev_pos ?_ ?_; focus (first | omega | assumption | (simp; done) | (simp; omega))) | (with_reducible refine ev_neg ?_ ?_; focus (first | omega | assumption | (simp; done) | (simp; omega)))))
      exact no (by unfold numB; rw [decide_eq_false (by omega)]; simp)
    · (repeat (first | (with_reducible refine ev_pos ?_ ?_; focus (first | omega | assumption | (simp; done) | (simp; omega))) | (with_reducible refine ev_neg ?_ ?_; focus (first | omega | assumption | (simp; done) | (simp; omega)))))
      have e : numB l = true := by unfold numB; rw [c1, decide_eq_true (by omega)]; rfl
      rw [e]
      have w0 : wrap64 (32 * 0) = 0 := by unfold wrap64; omega
      have w1 : wrap64 (0 + 1) = 1 := by unfold wrap64; omega
      have w2 : wrap64 (32 * 1) = 32 := by unfold wrap64; omega
      have w3 : wrap64 (1 + 1) = 2 := by unfold wrap64; omega
      match l, h with
      | [], h =>
        refine ev_step ?_
        simp only [nat_Num.l0]
        (repeat (first | (with_reducible refine ev_pos ?_ ?_; focus (first | omega | assumption | (simp; done) | (simp; omega))) | (with_reducible refine ev_neg ?_ ?_; focus (first | omega | assumption | (simp; done) | (simp; omega))))); exact Ev.now _
      | [x], h =>
        have hx := h.head
        refine ev_step ?_
        simp only [nat_Num.l0, w0, w1]
        (repeat (first | (with_reducible refine ev_pos ?_ ?_; focus (first | omega | assumption | (simp; done) | (simp; omega))) | (with_reducible refine ev_neg ?_ ?_; focus (first | omega | assumption | (simp; done) | (simp; omega)))))
        have r0 : rd [x] 0 = x := rfl
        rw [r0, u64 hx.1 (by omega), shl_zero hx, u64_or _ _ (by omega) (by omega) (by omega) (by omega)]
        refine ev_step ?_
        simp only [nat_Num.l0]
        (repeat (first | (with_reducible refine ev_pos ?_ ?_; focus (first | omega | assumption | (simp; done) | (simp; omega))) | (with_reducible refine ev_neg ?_ ?_; focus (first | omega | assumption | (simp; done) | (simp; omega)))))
        refine ev_eq (Ev.now _) ?_
        simp
      | [x, y], h =>
        have hx := h.head
        have hy := h.tail.head
        refine ev_step ?_
        simp only [nat_Num.l0, w0, w1]
        (repeat (first | (with_reducible refine ev_pos ?_ ?_; focus (first | omega | assumption | (simp; done) | (simp; omega))) | (with_reducible refine ev_neg ?_ ?_; focus (first | omega | assumption | (simp; done) | (simp; omega)))))
        have r0 : rd [x, y] 0 = x := rfl
        have r1 : rd [x, y] 1 = y := rfl
        rw [r0, u64 hx.1 (by omega), shl_zero hx, u64_or _ _ (by omega) (by omega) (by omega) (by omega)]
        have z : (((0 : Int).toNat ||| x.toNat : Nat) : Int) = x := by simp; omega
        rw [z]
        refine ev_step ?_
        simp only [nat_Num.l0, w2, w3]
        (repeat (first | (with_reducible refine ev_pos ?_ ?_; focus (first | omega | assumption | (simp; done) | (simp; omega))) | (with_reducible refine ev_neg ?_ ?_; focus (first | omega | assumption | (simp; done) | (simp; omega)))))
        rw [r1, u64 (n := y) hy.1 (by omega), shl_32 hy, or_u64_disjoint hx hy]
        refine ev_step ?_
        simp only [nat_Num.l0]
        (repeat (first | (with_reducible refine ev_pos ?_ ?_; focus (first | omega | assumption | (simp; done) | (simp; omega))) | (with_reducible refine ev_neg ?_ ?_; focus (first | omega | assumption | (simp; done) | (simp; omega)))))
        refine ev_eq (Ev.now _) ?_
        simp; omega
      | x :: y :: z :: l, h => simp at c2
  · have c1 : may l = false := by simpa using c1
    rw [c1]
    (repeat (first | (with_reducible refine ev_pos ?_ ?_; focus (first | omega | assumption | (simp; done) | (simp; omega))) | (with_reducible refine ev_neg ?_ ?_; focus (first | omega | assumption | (simp; done) | (simp; omega))))); exact no (by unfold numB; simp [c1])
end Go.Proofs.YtclegbgmhimenaaDoor.Eng.K

/- The first layer's plain functions: the length of a number in bits. -/
set_option linter.unusedVariables false
set_option linter.unusedSimpArgs false
namespace Go.Proofs.YtclegbgmhimenaaDoor.Eng.K
open Go.RowKit

/-- how many bits -/
def bl (n : Nat) : Nat := if n = 0 then 0 else n.log2 + 1
theorem bl_zero : bl 0 = 0 := rfl
theorem bl_le {n : Nat} (h : n ≠ 0) : 2 ^ (bl n - 1) ≤ n := by
  unfold bl; rw [if_neg h]; exact Nat.log2_self_le h
theorem lt_bl (n : Nat) : n < 2 ^ bl n := by
  unfold bl
  split
  · subst n; simp
  · exact Nat.lt_log2_self
theorem bl_pos {n : Nat} (h : n ≠ 0) : 0 < bl n := by unfold bl; rw [if_neg h]; omega
theorem bl_le_of_lt {n k : Nat} (h : n < 2 ^ k) : bl n ≤ k := by
  by_cases e : n = 0
  · subst e; simp [bl_zero]
  · have h1 := bl_le e
    have h2 := bl_pos e
    have : bl n - 1 < k := (Nat.pow_lt_pow_iff_right (a := 2) (by omega)).1 (Nat.lt_of_le_of_lt h1 h)
    omega
theorem bl_unique {n k : Nat} (h1 : 2 ^ k ≤ n) (h2 : n < 2 ^ (k + 1)) : bl n = k + 1 := by
  have := bl_le_of_lt h2
  have h3 : 2 ^ k < 2 ^ bl n := Nat.lt_of_le_of_lt h1 (lt_bl n)
  have := (Nat.pow_lt_pow_iff_right (a := 2) (by omega)).1 h3
  omega
theorem bl_shift {n k : Nat} (h : 2 ^ k ≤ n) : bl n = k + bl (n / 2 ^ k) := by
  have hp : 0 < 2 ^ k := Nat.pow_pos (by omega)
  have h0 : n / 2 ^ k ≠ 0 := by
    have := (Nat.le_div_iff_mul_le hp (x := 1) (y := n)).2 (by omega)
    omega
  have h1 := bl_le h0
  have h2 := lt_bl (n / 2 ^ k)
  have h3 := bl_pos h0
  have e : k + bl (n / 2 ^ k) = (k + (bl (n / 2 ^ k) - 1)) + 1 := by omega
  rw [e]
  apply bl_unique
  · rw [Nat.pow_add]
    have := (Nat.le_div_iff_mul_le hp).1 h1
    rw [Nat.mul_comm]; exact this
  · have := (Nat.div_lt_iff_lt_mul hp).1 h2
    rw [show k + (bl (n / 2 ^ k) - 1) + 1 = bl (n / 2 ^ k) + k by omega, Nat.pow_add]
    exact this
theorem bl_mono {a b : Nat} (h : a ≤ b) : bl a ≤ bl b := bl_le_of_lt (Nat.lt_of_le_of_lt h (lt_bl b))

def tab8 : ByteArray := ⟨#[0, 1, 2, 2, 3, 3, 3, 3, 4, 4, 4, 4, 4, 4, 4, 4, 5, 5, 5, 5, 5, 5, 5, 5, 5, 5, 5, 5, 5, 5, 5, 5, 6, 6, 6, 6, 6, 6, 6, 6, 6, 6, 6, 6, 6, 6, 6, 6, 6, 6, 6, 6, 6, 6, 6, 6, 6, 6, 6, 6, 6, 6, 6, 6, 7, 7, 7, 7, 7, 7, 7, 7, 7, 7, 7, 7, 7, 7, 7, 7, 7, 7, 7, 7, 7, 7, 7, 7, 7, 7, 7, 7, 7, 7, 7, 7, 7, 7, 7, 7, 7, 7, 7, 7, 7, 7, 7, 7, 7, 7, 7, 7, 7, 7, 7, 7, 7, 7, 7, 7, 7, 7, 7, 7, 7, 7, 7, 7, 8, 8, 8, 8, 8, 8, 8, 8, 8, 8, 8, 8, 8, 8, 8, 8, 8, 8, 8, 8, 8, 8, 8, 8, 8, 8, 8, 8, 8, 8, 8, 8, 8, 8, 8, 8, 8, 8, 8, 8, 8, 8, 8, 8, 8, 8, 8, 8, 8, 8, 8, 8, 8, 8, 8, 8, 8, 8, 8, 8, 8, 8, 8, 8, 8, 8, 8, 8, 8, 8, 8, 8, 8, 8, 8, 8, 8, 8, 8, 8, 8, 8, 8, 8, 8, 8, 8, 8, 8, 8, 8, 8, 8, 8, 8, 8, 8, 8, 8, 8, 8, 8, 8, 8, 8, 8, 8, 8, 8, 8, 8, 8, 8, 8, 8, 8, 8, 8, 8, 8, 8, 8, 8, 8, 8, 8, 8, 8]⟩
theorem tab8_eq : (List.range 256).all (fun i => bt tab8 (i : Int) == (bl i : Int)) = true := by decide +kernel
theorem bt8 {t : ByteArray} {n : Nat} (h : n < 256) (ht : t = tab8) : bt t (n : Int) = (bl n : Int) := by
  subst ht
  have := List.all_eq_true.1 tab8_eq n (List.mem_range.2 h)
  exact eq_of_beq this
theorem bl_small {n : Nat} (h : n < 256) : bl n ≤ 8 := bl_le_of_lt h
theorem txt0_size : txt0.size = 256 := by decide +kernel
theorem len32_j1 {n : Nat} (h : n < 256) {m : Int} (hm : 0 ≤ m ∧ m ≤ 64) : Ev (fun k => bits_Len32.j1 k (n : Int) m) (m + (bl n : Nat)) := by
  refine ev_step ?_
  simp only [bits_Len32.j1]
  have e : (n : Int) % 256 = n := by omega
  have l := bl_small h
  rw [e, txt0_size]
  (repeat (first | (with_reducible refine ev_pos ?_ ?_; focus (first | omega | assumption | (simp; done) | (simp; omega))) | (with_reducible refine ev_neg ?_ ?_; focus (first | omega | assumption | (simp; done) | (simp; omega)))))
  rw [bt8 h (by rfl), w64n (n := ((bl n : Nat) : Int)) (by omega) (by omega), w64n (by omega) (by omega)]
  exact Ev.now _
theorem len32_j0 {n : Nat} (h : n < 65536) {m : Int} (hm : 0 ≤ m ∧ m ≤ 32) : Ev (fun k => bits_Len32.j0 k (n : Int) m) (m + (bl n : Nat)) := by
  refine ev_step ?_
  simp only [bits_Len32.j0]
  by_cases c : n ≥ 256
  · (repeat (first | (with_reducible refine ev_pos ?_ ?_; focus (first | omega | assumption | (simp; done) | (simp; omega))) | (with_reducible refine ev_neg ?_ ?_; focus (first | omega | assumption | (simp; done) | (simp; omega)))))
    have e2 : bl n = 8 + bl (n / 256) := bl_shift (k := 8) c
    have := len32_j1 (n := n / 256) (by omega) (m := m + 8) (by omega)
    rw [w64n (by omega) (by omega), show (n : Int) / 256 = ((n / 256 : Nat) : Int) by omega]
    exact ev_eq this (by rw [e2]; omega)
  · (repeat (first | (with_reducible refine ev_pos ?_ ?_; focus (first | omega | assumption | (simp; done) | (simp; omega))) | (with_reducible refine ev_neg ?_ ?_; focus (first | omega | assumption | (simp; done) | (simp; omega)))))
    exact len32_j1 (by omega) (by omega)
theorem len32_ev {x : Int} (h : 0 ≤ x ∧ x < 4294967296) : Ev (fun k => bits_Len32.f k x) ((bl x.toNat : Nat) : Int) := by
  obtain ⟨n, rfl⟩ := Int.eq_ofNat_of_zero_le h.1
  unfold bits_Len32.f
  rw [Int.toNat_natCast]
  by_cases c : n ≥ 65536
  · (repeat (first | (with_reducible refine ev_pos ?_ ?_; focus (first | omega | assumption | (simp; done) | (simp; omega))) | (with_reducible refine ev_neg ?_ ?_; focus (first | omega | assumption | (simp; done) | (simp; omega)))))
    have e1 : bl n = 16 + bl (n / 65536) := bl_shift (k := 16) c
    rw [show (n : Int) / 65536 = ((n / 65536 : Nat) : Int) by omega]
    exact ev_eq (len32_j0 (by omega) (by omega)) (by rw [e1]; omega)
  · (repeat (first | (with_reducible refine ev_pos ?_ ?_; focus (first | omega | assumption | (simp; done) | (simp; omega))) | (with_reducible refine ev_neg ?_ ?_; focus (first | omega | assumption | (simp; done) | (simp; omega)))))
    exact ev_eq (len32_j0 (by omega) (by omega)) (by omega)
theorem len64_j2 {n : Nat} (h : n < 256) {m : Int} (hm : 0 ≤ m ∧ m ≤ 128) : Ev (fun k => bits_Len64.j2 k (n : Int) m) (m + (bl n : Nat)) := by
  refine ev_step ?_
  simp only [bits_Len64.j2]
  have e : (n : Int) % 256 = n := by omega
  have l := bl_small h
  rw [e, txt0_size]
  (repeat (first | (with_reducible refine ev_pos ?_ ?_; focus (first | omega | assumption | (simp; done) | (simp; omega))) | (with_reducible refine ev_neg ?_ ?_; focus (first | omega | assumption | (simp; done) | (simp; omega)))))
  rw [bt8 h (by rfl), w64n (n := ((bl n : Nat) : Int)) (by omega) (by omega), w64n (by omega) (by omega)]
  exact Ev.now _
theorem len64_j1 {n : Nat} (h : n < 65536) {m : Int} (hm : 0 ≤ m ∧ m ≤ 100) : Ev (fun k => bits_Len64.j1 k (n : Int) m) (m + (bl n : Nat)) := by
  refine ev_step ?_
  simp only [bits_Len64.j1]
  by_cases c : n ≥ 256
  · (repeat (first | (with_reducible refine ev_pos ?_ ?_; focus (first | omega | assumption | (simp; done) | (simp; omega))) | (with_reducible refine ev_neg ?_ ?_; focus (first | omega | assumption | (simp; done) | (simp; omega)))))
    have e2 : bl n = 8 + bl (n / 256) := bl_shift (k := 8) c
    have := len64_j2 (n := n / 256) (by omega) (m := m + 8) (by omega)
    rw [w64n (by omega) (by omega), show (n : Int) / 256 = ((n / 256 : Nat) : Int) by omega]
    exact ev_eq this (by rw [e2]; omega)
  · (repeat (first | (with_reducible refine ev_pos ?_ ?_; focus (first | omega | assumption | (simp; done) | (simp; omega))) | (with_reducible refine ev_neg ?_ ?_; focus (first | omega | assumption | (simp; done) | (simp; omega)))))
    exact len64_j2 (by omega) (by omega)
theorem len64_j0 {n : Nat} (h : n < 4294967296) {m : Int} (hm : 0 ≤ m ∧ m ≤ 64) : Ev (fun k => bits_Len64.j0 k n m) (m + (bl n : Nat)) := by
  refine ev_step ?_
  simp only [bits_Len64.j0]
  by_cases c : n ≥ 65536
  · (repeat (first | (with_reducible refine ev_pos ?_ ?_; focus (first | omega | assumption | (simp; done) | (simp; omega))) | (with_reducible refine ev_neg ?_ ?_; focus (first | omega | assumption | (simp; done) | (simp; omega)))))
    have e2 : bl n = 16 + bl (n / 65536) := bl_shift (k := 16) c
    have := len64_j1 (n := n / 65536) (by omega) (m := m + 16) (by omega)
    rw [w64n (by omega) (by omega), show (n : Int) / 65536 = ((n / 65536 : Nat) : Int) by omega]
    exact ev_eq this (by rw [e2]; omega)
  · (repeat (first | (with_reducible refine ev_pos ?_ ?_; focus (first | omega | assumption | (simp; done) | (simp; omega))) | (with_reducible refine ev_neg ?_ ?_; focus (first | omega | assumption | (simp; done) | (simp; omega)))))
    exact len64_j1 (by omega) (by omega)
theorem len64_ev {x : Int} (h : 0 ≤ x ∧ x < 18446744073709551616) : Ev (fun k => bits_Len64.f k x) ((bl x.toNat : Nat) : Int) := by
  obtain ⟨n, rfl⟩ := Int.eq_ofNat_of_zero_le h.1
  rw [Int.toNat_natCast]
  unfold bits_Len64.f
  by_cases c : n ≥ 4294967296
  · (repeat (first | (with_reducible refine ev_pos ?_ ?_; focus (first | omega | assumption | (simp; done) | (simp; omega))) | (with_reducible refine ev_neg ?_ ?_; focus (first | omega | assumption | (simp; done) | (simp; omega)))))
    have e : bl n = 32 + bl (n / 4294967296) := bl_shift (k := 32) c
    have := len64_j0 (n := n / 4294967296) (by omega) (m := 32) (by omega)
    refine ev_eq this ?_
    omega
  · (repeat (first | (with_reducible refine ev_pos ?_ ?_; focus (first | omega | assumption | (simp; done) | (simp; omega))) | (with_reducible refine ev_neg ?_ ?_; focus (first | omega | assumption | (simp; done) | (simp; omega)))))
    have := len64_j0 (n := n) (by omega) (m := 0) (by omega)
    exact ev_eq this (by omega)

/-! ### the references' length -/
/-- the bits of a list: its highest digit's, and 32 for each other one -/
theorem bl_V {l : List Int} (h : Nm l) (h0 : l ≠ []) : bl (V l) = 32 * (l.length - 1) + bl (l.getD (l.length - 1) 0).toNat := by
  rcases List.eq_nil_or_concat l with rfl | ⟨a, d, rfl⟩
  · exact absurd rfl h0
  rw [List.concat_eq_append] at h ⊢
  have hd := h.dg d (by simp)
  have hn := Nm_last h
  have e : (a ++ [d]).getD ((a ++ [d]).length - 1) 0 = d := by simp
  rw [e]
  have hl : (a ++ [d]).length - 1 = a.length := by simp
  rw [hl, V_append]
  simp only [V_cons, V_nil, Nat.mul_zero, Nat.add_zero]
  have hv := V_lt h.dg.left
  have hp : (4294967296 : Nat) ^ a.length = 2 ^ (32 * a.length) := by rw [Nat.pow_mul]
  rw [hp] at hv ⊢
  have hpos : 0 < 2 ^ (32 * a.length) := Nat.pow_pos (by omega)
  have hd1 : 2 ^ (32 * a.length) * 1 ≤ 2 ^ (32 * a.length) * d.toNat := Nat.mul_le_mul_left _ (by omega)
  rw [bl_shift (n := V a + 2 ^ (32 * a.length) * d.toNat) (k := 32 * a.length) (by omega)]
  rw [Nat.add_mul_div_left _ _ hpos, Nat.div_eq_of_lt hv, Nat.zero_add]
end Go.Proofs.YtclegbgmhimenaaDoor.Eng.K

/- The first layer's plain functions: quotients by one digit; decimal texts. -/
set_option linter.unusedVariables false
set_option linter.unusedSimpArgs false
namespace Go.Proofs.YtclegbgmhimenaaDoor.Eng.K
open Go.RowKit

/-! ### a text's bytes as numbers -/
theorem or_digit {x y : Int} (h0 : 0 ≤ x ∧ x < 4294967296) (h1 : 0 ≤ y ∧ y < 4294967296) : Go.bits .or .u64 (x * 4294967296) y = x * 4294967296 + y := by
  obtain ⟨X, rfl⟩ := Int.eq_ofNat_of_zero_le h0.1
  obtain ⟨Y, rfl⟩ := Int.eq_ofNat_of_zero_le h1.1
  have e : (X : Int) * 4294967296 = ((2 ^ 32 * X : Nat) : Int) := by omega
  rw [e, u64_or_nat _ _ (by omega) (by omega), ← Nat.two_pow_add_eq_or_of_lt (by omega)]
  omega
theorem top_div {r x d : Int} (hr : 0 ≤ r ∧ r < d) (hx : 0 ≤ x ∧ x < 4294967296) (hd : d < 4294967296) : 0 ≤ (r * 4294967296 + x) / d ∧ (r * 4294967296 + x) / d < 4294967296 := by
  constructor
  · exact Int.ediv_nonneg (by omega) (by omega)
  · apply Int.ediv_lt_of_lt_mul (by omega)
    have : r * 4294967296 + 4294967296 ≤ d * 4294967296 := by omega
    rw [Int.mul_comm]; omega
theorem div32_eq {r x d : Int} (hr : 0 ≤ r ∧ r < d) (hx : 0 ≤ x ∧ x < 4294967296) (hd : d < 4294967296) : bits_Div32.f r x d = some ((r * 4294967296 + x) / d, (r * 4294967296 + x) % d) := by
  have hn : 0 ≤ r * 4294967296 + x := by omega
  have hd0 : d ≠ 0 := by omega
  have hr0 : ¬ d ≤ r := by omega
  have ur := u64 (n := r) (by omega) (by omega)
  have ur2 := u64 (n := r * 4294967296) (by omega) (by omega)
  have ux := u64 (n := x) (by omega) (by omega)
  have ud := u64 (n := d) (by omega) (by omega)
  have ho := or_digit (x := r) (by omega) hx
  have h1 := top_div hr hx hd
  have h2 : 0 ≤ (r * 4294967296 + x) % d := Int.emod_nonneg _ hd0
  have h3 : (r * 4294967296 + x) % d < d := Int.emod_lt_of_pos _ (by omega)
  unfold bits_Div32.f
  rw [if_pos hd0, if_neg hr0, ud, if_neg hd0, if_neg hd0, ur, ur2, ux, ho, Int.tdiv_eq_ediv_of_nonneg hn, Int.tmod_eq_emod_of_nonneg hn]
  clear ur ur2 ux ud ho
  generalize (r * 4294967296 + x) / d = q at *
  generalize (r * 4294967296 + x) % d = m at *
  rw [u64 h1.1 (by omega), Int.emod_eq_of_lt h1.1 h1.2, Int.emod_eq_of_lt h2 (by omega)]
theorem zeros_snoc (n : Nat) (l : List Int) : List.replicate (n + 1) (0 : Int) ++ l = List.replicate n 0 ++ 0 :: l := by
  rw [List.replicate_succ', List.append_assoc]; rfl
/-- one digit more comes down -/
theorem small_nat (t P X R E w : Nat) (hE : 0 < E) :
    (t + P * X + P * 4294967296 * R) / E + P * 4294967296 * w = (t + P * ((R * 4294967296 + X) % E)) / E + P * ((R * 4294967296 + X) / E + 4294967296 * w) ∧
    (t + P * X + P * 4294967296 * R) % E = (t + P * ((R * 4294967296 + X) % E)) % E := by
  have h := Nat.div_add_mod (R * 4294967296 + X) E
  have e4 : P * (R * 4294967296 + X) = P * 4294967296 * R + P * X := by rw [Nat.mul_add, Nat.mul_comm R, Nat.mul_assoc]
  generalize (R * 4294967296 + X) / E = q at *
  generalize (R * 4294967296 + X) % E = m at *
  have e3 : P * (E * q + m) = E * (P * q) + P * m := by rw [Nat.mul_add, Nat.mul_left_comm]
  rw [h, e4] at e3
  have key : t + P * X + P * 4294967296 * R = t + P * m + E * (P * q) := by
    rw [Nat.add_assoc, Nat.add_comm (P * X), e3, Nat.add_assoc, Nat.add_comm (P * m)]
  rw [key, Nat.add_mul_div_left _ _ hE, Nat.add_mul_mod_self_left, Nat.mul_add, Nat.mul_assoc P, Nat.add_assoc]
  exact ⟨rfl, rfl⟩
theorem small_step {a : List Int} (ha : Dg a) {i : Nat} (hi : i < a.length) {r d : Int} (hr : 0 ≤ r ∧ r < d) (w : Nat) :
    (V (a.take (i + 1)) + 4294967296 ^ (i + 1) * r.toNat) / d.toNat + 4294967296 ^ (i + 1) * w =
      (V (a.take i) + 4294967296 ^ i * ((r * 4294967296 + a.getD i 0) % d).toNat) / d.toNat + 4294967296 ^ i * (((r * 4294967296 + a.getD i 0) / d).toNat + 4294967296 * w) ∧
    (V (a.take (i + 1)) + 4294967296 ^ (i + 1) * r.toNat) % d.toNat = (V (a.take i) + 4294967296 ^ i * ((r * 4294967296 + a.getD i 0) % d).toNat) % d.toNat := by
  have hx := ha.getD i
  rw [V_take_succ hi]
  obtain ⟨R, rfl⟩ := Int.eq_ofNat_of_zero_le hr.1
  obtain ⟨E, rfl⟩ := Int.eq_ofNat_of_zero_le (show 0 ≤ d by omega)
  obtain ⟨X, hX⟩ := Int.eq_ofNat_of_zero_le hx.1
  rw [hX]
  have hE : 0 < E := by omega
  clear hx hX hr ha hi
  have e1 : ((R : Int) * 4294967296 + X) % E = (((R * 4294967296 + X) % E : Nat) : Int) := by
    rw [Int.natCast_emod, Int.natCast_add, Int.natCast_mul, Int.cast_ofNat_Int]
  have e2 : ((R : Int) * 4294967296 + X) / E = (((R * 4294967296 + X) / E : Nat) : Int) := by
    rw [Int.natCast_ediv, Int.natCast_add, Int.natCast_mul, Int.cast_ofNat_Int]
  rw [e1, e2]
  rw [Int.toNat_natCast, Int.toNat_natCast, Int.toNat_natCast, Int.toNat_natCast, Int.toNat_natCast, Nat.pow_succ]
  exact small_nat _ _ _ _ _ _ hE
theorem small_l0 {a : List Int} (ha : Dg a) (hl : a.length < 1000000000) {d : Int} (hd : 0 < d ∧ d < 4294967296) : ∀ (i : Nat) (r : Int) (done : List Int), i + done.length = a.length → 0 ≤ r ∧ r < d → Dg done →
    Ev (fun k => nat_small.l0 k a d (List.replicate i 0 ++ done) r ((i : Int) - 1)) (D ((V (a.take i) + 4294967296 ^ i * r.toNat) / d.toNat + 4294967296 ^ i * V done), (((V (a.take i) + 4294967296 ^ i * r.toNat) % d.toNat : Nat) : Int))
  | 0, r, done, hi, hr, hg => by
    refine ev_step ?_
    simp only [nat_small.l0]
    (repeat (first | (with_reducible refine ev_pos ?_ ?_; focus (first | omega | assumption | (simp; done) | (simp; omega))) | (with_reducible refine ev_neg ?_ ?_; focus (first | omega | assumption | (simp; done) | (simp; omega)))))
    refine Ev.bind (nat_trim_ev (l := List.replicate 0 0 ++ done) (by simpa using hg) (by simp; omega)) (ev_eq (Ev.now _) ?_)
    have h1 : r.toNat / d.toNat = 0 := Nat.div_eq_of_lt (by omega)
    have h2 : r.toNat % d.toNat = r.toNat := Nat.mod_eq_of_lt (by omega)
    simp [h1, h2]; omega
  | i + 1, r, done, hi, hr, hg => by
    have e0 : ((i + 1 : Nat) : Int) - 1 = (i : Int) := by omega
    have hx := ha.getD i
    have ht := top_div hr hx hd.2
    have st := small_step ha (i := i) (by omega) hr (V done)
    have hm0 : 0 ≤ (r * 4294967296 + a.getD i 0) % d := Int.emod_nonneg _ (by omega)
    have hm1 : (r * 4294967296 + a.getD i 0) % d < d := Int.emod_lt_of_pos _ (by omega)
    have ih := small_l0 ha hl hd i ((r * 4294967296 + a.getD i 0) % d) (((r * 4294967296 + a.getD i 0) / d) :: done) (by simp; omega) ⟨hm0, hm1⟩ (Dg.cons ht.1 ht.2 hg)
    rw [e0]
    refine ev_step ?_
    simp only [nat_small.l0, w64m (n := i) (by omega)]
    (repeat (first | (with_reducible refine ev_pos ?_ ?_; focus (first | omega | assumption | (simp; done) | (simp; omega))) | (with_reducible refine ev_neg ?_ ?_; focus (first | omega | assumption | (simp; done) | (simp; omega)))))
    rw [rdn]
    refine ev_bind (div32_eq hr hx hd.2) ?_
    refine ev_pos (by omega) (ev_pos (by simp; omega) ?_)
    have hs : (List.replicate (i + 1) (0 : Int) ++ done).set ((i : Int)).toNat ((r * 4294967296 + a.getD i 0) / d) = List.replicate i 0 ++ ((r * 4294967296 + a.getD i 0) / d) :: done := by
      rw [zeros_snoc, set_app (by simp)]; simp
    rw [hs]
    refine ev_eq ih ?_
    rw [V_cons, st.1, st.2]
theorem nat_small_ev {a : List Int} (ha : Dg a) (hl : a.length < 1000000000) {d : Int} (hd : 0 < d ∧ d < 4294967296) : Ev (fun k => nat_small.f k a d) (D (V a / d.toNat), ((V a % d.toNat : Nat) : Int)) := by
  unfold nat_small.f
  (repeat (first | (with_reducible refine ev_pos ?_ ?_; focus (first | omega | assumption | (simp; done) | (simp; omega))) | (with_reducible refine ev_neg ?_ ?_; focus (first | omega | assumption | (simp; done) | (simp; omega)))))
  have := small_l0 ha hl hd a.length 0 [] (by simp) (by omega) Dg.nil
  rw [w64m (by omega)]
  simpa using this
end Go.Proofs.YtclegbgmhimenaaDoor.Eng.K

/- The first layer's plain functions: times a power of two, bits. -/
set_option linter.unusedVariables false
set_option linter.unusedSimpArgs false
namespace Go.Proofs.YtclegbgmhimenaaDoor.Eng.K
open Go.RowKit

/-! ### one digit -/
theorem pw {s : Nat} (h : s ≤ 32) : 2 ^ s * 2 ^ (32 - s) = 4294967296 := by
  rw [← Nat.pow_add]; have : s + (32 - s) = 32 := by omega
  rw [this]
theorem pw_pos (s : Nat) : 0 < 2 ^ s := Nat.pow_pos (by omega)
theorem shift_nat {X P Q c : Nat} (hP : 0 < P) (hc : c < P) : (X * P + c) / (P * Q) = X / Q ∧ (X * P + c) % (P * Q) = P * (X % Q) + c := by
  have h1 : (X * P + c) / P = X := by rw [Nat.mul_comm, Nat.mul_add_div hP, Nat.div_eq_of_lt hc, Nat.add_zero]
  have h2 : (X * P + c) % P = c := by rw [Nat.mul_comm, Nat.mul_add_mod, Nat.mod_eq_of_lt hc]
  exact ⟨by rw [← Nat.div_div_eq_div_mul, h1], by rw [Nat.mod_mul, h1, h2, Nat.add_comm]⟩
theorem pow_cast (s : Nat) : ((2 : Int) ^ s) = ((2 ^ s : Nat) : Int) := by simp
theorem shl32 (X s : Nat) (hs : s < 32) : shl .u32 (X : Int) (s : Int) = ((X * 2 ^ s % 4294967296 : Nat) : Int) := by
  unfold shl
  rw [Int.toNat_natCast, Nat.min_eq_left (by simp [IntKind.bits]; omega), pow_cast, ← Int.natCast_mul]
  simp [IntKind.wrap, IntKind.bits, IntKind.signed]
theorem shl64 (X s : Nat) (hs : s ≤ 32) (hX : X < 4294967296) : shl .u64 (X : Int) (s : Int) = ((X * 2 ^ s : Nat) : Int) := by
  unfold shl
  rw [Int.toNat_natCast, Nat.min_eq_left (by simp [IntKind.bits]; omega), pow_cast, ← Int.natCast_mul]
  have h1 : 2 ^ s ≤ 2 ^ 32 := Nat.pow_le_pow_right (by omega) hs
  have h2 : X * 2 ^ s ≤ 4294967295 * 2 ^ 32 := Nat.mul_le_mul (by omega) h1
  exact u64 (by omega) (by omega)
theorem shr_n {k : IntKind} (X s : Nat) (hs : s ≤ k.bits) : shr k (X : Int) (s : Int) = ((X / 2 ^ s : Nat) : Int) := by
  unfold shr
  rw [Int.toNat_natCast, Nat.min_eq_left hs, pow_cast, ← Int.natCast_ediv]
theorem wrap_u64n (X : Nat) (hX : X < 4294967296) : IntKind.u64.wrap (X : Int) = (X : Int) := u64 (by omega) (by omega)
theorem w32s {s : Nat} (hs : s ≤ 32) : wrap64 (32 - (s : Int)) = ((32 - s : Nat) : Int) := by unfold wrap64; omega
theorem div_lt_pw {X s : Nat} (hs : s ≤ 32) (hX : X < 4294967296) : X / 2 ^ s < 2 ^ (32 - s) := by
  rw [Nat.div_lt_iff_lt_mul (pw_pos _), Nat.mul_comm, pw hs]; exact hX
/-- up: the digit that stays -/
theorem up_digit (X s c : Nat) (hs : s < 32) (hX : X < 4294967296) (hc : c < 2 ^ s) : Go.bits .or .u32 (shl .u32 (X : Int) (s : Int)) (c : Int) = (((X * 2 ^ s + c) % 4294967296 : Nat) : Int) := by
  have h1 := (shift_nat (X := X) (Q := 2 ^ (32 - s)) (pw_pos s) hc).2
  have h0 := (shift_nat (X := X) (Q := 2 ^ (32 - s)) (c := 0) (pw_pos s) (pw_pos s)).2
  have hle : 2 ^ s ≤ 2 ^ 31 := Nat.pow_le_pow_right (by omega) (by omega)
  rw [pw (by omega)] at h1 h0
  rw [shl32 _ _ hs, u32_or_nat _ _ (by omega) (by omega), h1]
  rw [Nat.add_zero, Nat.add_zero] at h0
  rw [h0, ← Nat.two_pow_add_eq_or_of_lt hc]
theorem up_carry (X s c : Nat) (hs : s < 32) (hX : X < 4294967296) (hc : c < 2 ^ s) : (shr .u64 (IntKind.u64.wrap (X : Int)) (wrap64 (32 - (s : Int)))) % 4294967296 = (((X * 2 ^ s + c) / 4294967296 : Nat) : Int) := by
  have h1 := (shift_nat (X := X) (Q := 2 ^ (32 - s)) (pw_pos s) hc).1
  rw [pw (by omega)] at h1
  rw [wrap_u64n _ hX, w32s (by omega), shr_n _ _ (by simp [IntKind.bits]; omega), h1]
  have := div_lt_pw (s := 32 - s) (by omega) hX
  have h3 : X / 2 ^ (32 - s) ≤ X := Nat.div_le_self _ _
  omega
theorem up_carry_lt (X s c : Nat) (hs : s < 32) (hX : X < 4294967296) (hc : c < 2 ^ s) : (X * 2 ^ s + c) / 4294967296 < 2 ^ s := by
  have h1 := (shift_nat (X := X) (Q := 2 ^ (32 - s)) (pw_pos s) hc).1
  rw [pw (by omega)] at h1
  rw [h1]
  have := div_lt_pw (s := 32 - s) (by omega) hX
  have e : 32 - (32 - s) = s := by omega
  rwa [e] at this
/-! ### times 2^n -/
def upRec (P : Nat) : List Int → Nat → List Int
  | [], c => [(c : Int)]
  | d :: l, c => (((d.toNat * P + c) % 4294967296 : Nat) : Int) :: upRec P l ((d.toNat * P + c) / 4294967296)
theorem upRec_V {s : Nat} (hs : s < 32) : ∀ (l : List Int) (c : Nat), Dg l → c < 2 ^ s → V (upRec (2 ^ s) l c) = V l * 2 ^ s + c ∧ Dg (upRec (2 ^ s) l c)
  | [], c, _, hc => by
    have hle : 2 ^ s ≤ 2 ^ 31 := Nat.pow_le_pow_right (by omega) (by omega)
    simp only [upRec, V_cons, V_nil]
    exact ⟨by omega, Dg.cons (by omega) (by omega) Dg.nil⟩
  | d :: l, c, hg, hc => by
    have hd := hg.head
    have hX : d.toNat < 4294967296 := by omega
    have ih := upRec_V hs l _ hg.tail (up_carry_lt d.toNat s c hs hX hc)
    simp only [upRec, V_cons, ih.1]
    refine ⟨?_, Dg.cons (by omega) (by omega) ih.2⟩
    generalize hm : d.toNat * 2 ^ s + c = m
    rw [Nat.add_mul, Nat.mul_assoc]
    generalize V l * 2 ^ s = z
    omega
theorem nn {i : Nat} : 0 ≤ (i : Int) := Int.natCast_nonneg i
theorem up_l0 (A : List Int) (hA : Dg A) (hl : A.length < 1000000000) {s : Nat} (hs : s < 32) : ∀ (a done pa : List Int) (c : Nat), A = pa ++ a → c < 2 ^ s → Dg done → done.length + a.length < 2000000000 →
    Ev (fun k => nat_up.l0 k done s c A A.length pa.length) (D (V (done ++ upRec (2 ^ s) a c)))
  | [], done, pa, c, he, hc, hg, hb => by
    have hlen : A.length = pa.length := by rw [he]; simp
    have hle : 2 ^ s ≤ 2 ^ 31 := Nat.pow_le_pow_right (by omega) (by omega)
    refine ev_step ?_
    simp only [nat_up.l0]
    (repeat (first | (with_reducible refine ev_pos ?_ ?_; focus (first | omega | assumption | (simp; done) | (simp; omega))) | (with_reducible refine ev_neg ?_ ?_; focus (first | omega | assumption | (simp; done) | (simp; omega)))))
    exact Ev.bind (nat_trim_ev (hg.app (Dg.cons (by omega) (by omega) Dg.nil)) (by simp at hb ⊢; omega)) (Ev.now _)
  | d :: a, done, pa, c, he, hc, hg, hb => by
    have hlen : A.length = pa.length + 1 + a.length := by rw [he]; simp; omega
    have hd : 0 ≤ d ∧ d < 4294967296 := by rw [he] at hA; exact hA.right.head
    obtain ⟨X, rfl⟩ := Int.eq_ofNat_of_zero_le hd.1
    have hX : X < 4294967296 := by omega
    have h1 : rd A (pa.length : Int) = (X : Int) := by rw [he]; exact rd_app rfl
    refine ev_step ?_
    simp only [nat_up.l0, h1, w64s (n := pa.length) (by omega), up_digit X s c hs hX hc, up_carry X s c hs hX hc]
    have w32 : wrap64 (32 - (s : Int)) = 32 - (s : Int) := by unfold wrap64; omega
    (repeat (first | (with_reducible refine ev_pos ?_ ?_; focus (first | omega | assumption | (simp; done) | (simp; omega))) | (with_reducible refine ev_neg ?_ ?_; focus (first | omega | assumption | (simp; done) | (simp; omega)))))
    have := up_l0 A hA hl hs a (done ++ [(((X * 2 ^ s + c) % 4294967296 : Nat) : Int)]) (pa ++ [(X : Int)]) ((X * 2 ^ s + c) / 4294967296) (by rw [he]; simp) (up_carry_lt X s c hs hX hc) (hg.app (Dg.cons (by omega) (by omega) Dg.nil)) (by simp at hb ⊢; omega)
    rw [List.length_append, List.length_singleton] at this
    refine ev_eq this ?_
    simp [upRec]
theorem t32 {n : Nat} (h : n < 4611686018427387904) : wrap64 (Int.tdiv (n : Int) 32) = ((n / 32 : Nat) : Int) := by
  rw [Int.tdiv_eq_ediv_of_nonneg (by omega)]; unfold wrap64; omega
theorem m32 (n : Nat) : Int.tmod (n : Int) 32 = ((n % 32 : Nat) : Int) := by
  rw [Int.tmod_eq_emod_of_nonneg (by omega)]; omega
theorem pw_split (n : Nat) : 2 ^ n = 4294967296 ^ (n / 32) * 2 ^ (n % 32) := by
  have h : (4294967296 : Nat) = 2 ^ 32 := by decide
  rw [h, ← Nat.pow_mul, ← Nat.pow_add]; congr 1; omega
theorem up_V {a : List Int} (ha : Dg a) (n : Nat) : V (List.replicate (n / 32) 0 ++ upRec (2 ^ (n % 32)) a 0) = V a * 2 ^ n := by
  have h := (upRec_V (s := n % 32) (by omega) a 0 ha (pw_pos _)).1
  rw [V_append, V_zeros, List.length_replicate, h, Nat.zero_add, Nat.add_zero, pw_split n, Nat.mul_left_comm]
theorem nat_up_ev {a : List Int} (ha : Dg a) (la : a.length < 1000000000) (n : Nat) (hn : n < 1000000000) : Ev (fun k => nat_up.f k a n) (D (V a * 2 ^ n)) := by
  unfold nat_up.f
  have e1 : wrap64 (wrap64 (((n / 32 : Nat) : Int) + (a.length : Int)) + 1) = ((n / 32 + a.length + 1 : Nat) : Int) := by unfold wrap64; omega
  simp only [t32 (n := n) (by omega), m32, e1]
  clear e1
  by_cases h0 : a = []
  · subst h0
    (repeat (first | (with_reducible refine ev_pos ?_ ?_; focus (first | omega | assumption | (simp; done) | (simp; omega))) | (with_reducible refine ev_neg ?_ ?_; focus (first | omega | assumption | (simp; done) | (simp; omega)))))
    exact ev_eq (Ev.now _) (by simp [D_zero])
  · have : 0 < a.length := List.length_pos_iff.2 h0
    (repeat (first | (with_reducible refine ev_pos ?_ ?_; focus (first | omega | assumption | (simp; done) | (simp; omega))) | (with_reducible refine ev_neg ?_ ?_; focus (first | omega | assumption | (simp; done) | (simp; omega)))))
    have h := up_l0 a ha la (s := n % 32) (by omega) a (List.replicate (n / 32) 0) [] 0 rfl (pw_pos _) (Dg.zeros _) (by simp; omega)
    rw [up_V ha] at h
    simp only [Int.toNat_natCast]
    simpa using h
end Go.Proofs.YtclegbgmhimenaaDoor.Eng.K

/- The first layer's plain functions: a power of two off, bits. -/
set_option linter.unusedVariables false
set_option linter.unusedSimpArgs false
namespace Go.Proofs.YtclegbgmhimenaaDoor.Eng.K
open Go.RowKit

theorem pw' {s : Nat} (h : s ≤ 32) : 2 ^ (32 - s) * 2 ^ s = 4294967296 := by rw [Nat.mul_comm]; exact pw h
theorem V_drop {l : List Int} (h : Dg l) (q : Nat) : V (l.drop q) = V l / 4294967296 ^ q := by
  by_cases hq : q ≤ l.length
  · have e : V l = V (l.take q) + 4294967296 ^ q * V (l.drop q) := by
      conv => lhs; rw [← List.take_append_drop q l, V_append, List.length_take, Nat.min_eq_left hq]
    have hlt : V (l.take q) < 4294967296 ^ q := by
      have := V_lt (h.take q); rwa [List.length_take, Nat.min_eq_left hq] at this
    rw [e, Nat.add_mul_div_left _ _ (Nat.pow_pos (by omega)), Nat.div_eq_of_lt hlt, Nat.zero_add]
  · rw [List.drop_eq_nil_of_le (by omega), V_nil, Nat.div_eq_of_lt]
    exact Nat.lt_of_lt_of_le (V_lt h) (Nat.pow_le_pow_right (by omega) (by omega))
theorem lt_cast {m : Nat} (h : m < 4294967296) : (m : Int) < 4294967296 := by omega
theorem down_shl (Y s : Nat) (hs : s < 32) (hY : Y < 4294967296) : (shl .u64 (IntKind.u64.wrap (Y : Int)) (wrap64 (32 - (s : Int)))) % 4294967296 = ((2 ^ (32 - s) * (Y % 2 ^ s) : Nat) : Int) := by
  rw [wrap_u64n _ hY, w32s (by omega), shl64 _ _ (by omega) hY]
  have h := (shift_nat (X := Y) (P := 2 ^ (32 - s)) (Q := 2 ^ s) (c := 0) (pw_pos _) (pw_pos _)).2
  rw [pw' (by omega), Nat.add_zero, Nat.add_zero] at h
  rw [← h]; omega
theorem down_lt (X Y s : Nat) (hs : s < 32) (hX : X < 4294967296) : X / 2 ^ s + 2 ^ (32 - s) * (Y % 2 ^ s) < 4294967296 := by
  have h1 := div_lt_pw (s := s) (by omega) hX
  have h2 : Y % 2 ^ s + 1 ≤ 2 ^ s := Nat.mod_lt _ (pw_pos _)
  have h3 := Nat.mul_le_mul_left (2 ^ (32 - s)) h2
  rw [pw' (by omega), Nat.mul_add] at h3
  omega
theorem down_digit (X Y s : Nat) (hs : s < 32) (hX : X < 4294967296) (hY : Y < 4294967296) : Go.bits .or .u32 ((X / 2 ^ s : Nat) : Int) ((shl .u64 (IntKind.u64.wrap (Y : Int)) (wrap64 (32 - (s : Int)))) % 4294967296) = ((X / 2 ^ s + 2 ^ (32 - s) * (Y % 2 ^ s) : Nat) : Int) := by
  have hl := down_lt X Y s hs hX
  rw [down_shl Y s hs hY, u32_or_nat _ _ (Nat.lt_of_le_of_lt (Nat.le_add_right _ _) hl) (Nat.lt_of_le_of_lt (Nat.le_add_left _ _) hl), Nat.or_comm, ← Nat.two_pow_add_eq_or_of_lt (div_lt_pw (by omega) hX), Nat.add_comm]
def downRec (s : Nat) : List Int → List Int
  | [] => []
  | d :: l => ((d.toNat / 2 ^ s + 2 ^ (32 - s) * ((l.headD 0).toNat % 2 ^ s) : Nat) : Int) :: downRec s l
theorem V_mod_pw {l : List Int} {s : Nat} (hs : s ≤ 32) : V l % 2 ^ s = (l.headD 0).toNat % 2 ^ s := by
  cases l with
  | nil => simp
  | cons d l =>
    have h := pw (s := s) hs
    simp only [V_cons, List.headD_cons]
    rw [← h, Nat.mul_assoc, Nat.add_mul_mod_self_left]
theorem downRec_V {s : Nat} (hs : s < 32) : ∀ (l : List Int), Dg l → V (downRec s l) = V l / 2 ^ s ∧ Dg (downRec s l)
  | [], _ => by simp [downRec, Dg.nil]
  | d :: l, hg => by
    have hd := hg.head
    have ih := downRec_V hs l hg.tail
    have hl := down_lt d.toNat (l.headD 0).toNat s hs (by omega)
    simp only [downRec, V_cons, ih.1]
    refine ⟨?_, Dg.cons nn (lt_cast hl) ih.2⟩
    rw [← V_mod_pw (l := l) (by omega), Int.toNat_natCast]
    have h := pw (s := s) (by omega)
    have h' := pw' (s := s) (by omega)
    have e1 : (d.toNat + 4294967296 * V l) / 2 ^ s = d.toNat / 2 ^ s + 2 ^ (32 - s) * V l := by
      rw [← h, Nat.mul_assoc, Nat.add_mul_div_left _ _ (pw_pos _)]
    have e2 : 2 ^ (32 - s) * V l = 2 ^ (32 - s) * (V l % 2 ^ s) + 4294967296 * (V l / 2 ^ s) := by
      rw [← h', Nat.mul_assoc, ← Nat.mul_add, Nat.mod_add_div]
    rw [e1, e2, Nat.add_assoc]
theorem down_V {a : List Int} (ha : Dg a) (n : Nat) : V (downRec (n % 32) (a.drop (n / 32))) = V a / 2 ^ n := by
  rw [(downRec_V (by omega) _ (ha.drop _)).1, V_drop ha, Nat.div_div_eq_div_mul, ← pw_split]

theorem down_l0 (A : List Int) (hA : Dg A) (hl : A.length < 1000000000) {s : Nat} (hs : s < 32) : ∀ (a done pa : List Int), A = pa ++ a → done.length = pa.length → Dg done →
    Ev (fun k => nat_down.l0 k A s (done ++ List.replicate a.length 0) A A.length pa.length) (D (V (done ++ downRec s a)))
  | [], done, pa, he, hd, hg => by
    have hlen : A.length = pa.length := by rw [he]; simp
    refine ev_step ?_
    simp only [nat_down.l0]
    (repeat (first | (with_reducible refine ev_pos ?_ ?_; focus (first | omega | assumption | (simp; done) | (simp; omega))) | (with_reducible refine ev_neg ?_ ?_; focus (first | omega | assumption | (simp; done) | (simp; omega)))))
    simp only [List.length_nil, List.replicate_zero, downRec]
    exact Ev.bind (nat_trim_ev (l := done ++ []) (by simpa using hg) (by simp; omega)) (Ev.now _)
  | d :: a, done, pa, he, hd, hg => by
    have hlen : A.length = pa.length + 1 + a.length := by rw [he]; simp; omega
    have hdd : 0 ≤ d ∧ d < 4294967296 := by rw [he] at hA; exact hA.right.head
    obtain ⟨X, rfl⟩ := Int.eq_ofNat_of_zero_le hdd.1
    have hX : X < 4294967296 := by omega
    have h1 : rd A (pa.length : Int) = (X : Int) := by rw [he]; exact rd_app rfl
    have hg2 : Dg (a) := by rw [he] at hA; exact hA.right.tail
    have hy := hg2.headD
    have ih := down_l0 A hA hl hs a (done ++ [((X / 2 ^ s + 2 ^ (32 - s) * ((a.headD 0).toNat % 2 ^ s) : Nat) : Int)]) (pa ++ [(X : Int)]) (by rw [he]; simp) (by simp [hd])
      (hg.app (Dg.cons nn (lt_cast (down_lt X (a.headD 0).toNat s hs hX)) Dg.nil))
    rw [@List.length_append _ pa, List.length_singleton] at ih
    refine ev_step ?_
    have hset : (done ++ List.replicate ((X : Int) :: a).length 0).set ((pa.length : Int)).toNat ((X / 2 ^ s : Nat) : Int) = (done ++ [((X / 2 ^ s : Nat) : Int)]) ++ List.replicate a.length 0 := by
      rw [List.length_cons, List.replicate_succ, set_app (by omega)]
    simp only [nat_down.l0, h1, w64s (n := pa.length) (by omega), shr_n (k := .u32) X s (by simp [IntKind.bits]; omega), hset, Option.bind_some]
    have w32 : wrap64 (32 - (s : Int)) = 32 - (s : Int) := by unfold wrap64; omega
    (repeat (first | (with_reducible refine ev_pos ?_ ?_; focus (first | omega | assumption | (simp; done) | (simp; omega))) | (with_reducible refine ev_neg ?_ ?_; focus (first | omega | assumption | (simp; done) | (simp; omega)))))
    by_cases hn : a = []
    · subst hn
      simp only [List.length_nil, Nat.add_zero] at hlen
      (repeat (first | (with_reducible refine ev_pos ?_ ?_; focus (first | omega | assumption | (simp; done) | (simp; omega))) | (with_reducible refine ev_neg ?_ ?_; focus (first | omega | assumption | (simp; done) | (simp; omega)))))
      refine ev_eq (by simpa [downRec] using ih) ?_
      simp [downRec]
    · obtain ⟨y, a', rfl⟩ := List.exists_cons_of_ne_nil hn
      obtain ⟨Y, rfl⟩ := Int.eq_ofNat_of_zero_le hy.1
      simp only [List.headD_cons] at hy ih
      have hlen' := hlen
      simp only [List.length_cons] at hlen'
      have h2 : rd A ((pa.length + 1 : Nat) : Int) = (Y : Int) := by rw [he, show pa ++ (X : Int) :: (Y : Int) :: a' = (pa ++ [(X : Int)]) ++ (Y : Int) :: a' by simp]; exact rd_app (by simp)
      have h3 : rd (done ++ [((X / 2 ^ s : Nat) : Int)] ++ List.replicate ((Y : Int) :: a').length 0) (pa.length : Int) = ((X / 2 ^ s : Nat) : Int) := by rw [List.append_assoc, List.singleton_append]; exact rd_app (by omega)
      have hset2 : (done ++ [((X / 2 ^ s : Nat) : Int)] ++ List.replicate ((Y : Int) :: a').length 0).set ((pa.length : Int)).toNat ((X / 2 ^ s + 2 ^ (32 - s) * (Y % 2 ^ s) : Nat) : Int) = done ++ [((X / 2 ^ s + 2 ^ (32 - s) * (Y % 2 ^ s) : Nat) : Int)] ++ List.replicate ((Y : Int) :: a').length 0 := by
        rw [List.append_assoc, List.singleton_append, set_app (by omega)]
      simp only [h2, h3, down_digit X Y s hs hX (by omega), hset2]
      (repeat (first | (with_reducible refine ev_pos ?_ ?_; focus (first | omega | assumption | (simp; done) | (simp; omega))) | (with_reducible refine ev_neg ?_ ?_; focus (first | omega | assumption | (simp; done) | (simp; omega)))))
      rw [Int.toNat_natCast] at ih
      refine ev_eq ih ?_
      simp [downRec]
theorem nat_down_ev {a : List Int} (ha : Dg a) (la : a.length < 1000000000) (n : Nat) (hn : n < 100000000000) : Ev (fun k => nat_down.f k a n) (D (V a / 2 ^ n)) := by
  unfold nat_down.f
  simp only [t32 (n := n) (by omega), m32]
  by_cases h : n / 32 ≥ a.length
  · (repeat (first | (with_reducible refine ev_pos ?_ ?_; focus (first | omega | assumption | (simp; done) | (simp; omega))) | (with_reducible refine ev_neg ?_ ?_; focus (first | omega | assumption | (simp; done) | (simp; omega)))))
    have : V a / 2 ^ n = 0 := by
      rw [pw_split, ← Nat.div_div_eq_div_mul, ← V_drop ha, List.drop_eq_nil_of_le h]; simp
    rw [this, D_zero]; exact Ev.now _
  · (repeat (first | (with_reducible refine ev_pos ?_ ?_; focus (first | omega | assumption | (simp; done) | (simp; omega))) | (with_reducible refine ev_neg ?_ ?_; focus (first | omega | assumption | (simp; done) | (simp; omega)))))
    have h := down_l0 (a.drop (n / 32)) (ha.drop _) (by simp; omega) (s := n % 32) (by omega) (a.drop (n / 32)) [] [] rfl rfl Dg.nil
    simp only [List.nil_append, down_V ha] at h
    simp only [Int.toNat_natCast]
    simpa using h

/-! ### bits -/
end Go.Proofs.YtclegbgmhimenaaDoor.Eng.K

/- The first layer's reference: quotients bit by bit. -/
set_option linter.unusedVariables false
set_option linter.unusedSimpArgs false
namespace Go.Proofs.YtclegbgmhimenaaDoor.Eng.K
open Go.RowKit

theorem bl_list {l : List Int} (h : Dg l) : bl (V l) ≤ 32 * l.length := by
  apply bl_le_of_lt
  have := V_lt h
  rwa [show (4294967296 : Nat) = 2 ^ 32 from rfl, ← Nat.pow_mul] at this
theorem D_lt {n k : Nat} (h : n < 4294967296 ^ k) : (D n).length ≤ k := by
  rcases Nat.lt_or_ge k (D n).length with h1 | h1
  · have h2 := D_len_pos (Nm_D n) (by intro e; rw [e] at h1; simp at h1)
    rw [V_D] at h2
    have h3 : 4294967296 ^ k ≤ 4294967296 ^ ((D n).length - 1) := Nat.pow_le_pow_right (by omega) (by omega)
    omega
  · exact h1
/-! ### quotients -/
end Go.Proofs.YtclegbgmhimenaaDoor.Eng.K

/- The first layer's reference: the quotient bit by bit. -/
set_option linter.unusedVariables false
set_option linter.unusedSimpArgs false
namespace Go.Proofs.YtclegbgmhimenaaDoor.Eng.K
open Go.RowKit

theorem V_pos {l : List Int} (h : Nm l) (h0 : l ≠ []) : V l ≠ 0 := fun e => h0 ((V_eq_zero h).1 e)
theorem cmpN_ge {m n : Nat} : (cmpN m n ≥ 0) ↔ n ≤ m := by
  unfold cmpN; split
  · constructor <;> intro h <;> omega
  · split <;> constructor <;> intro h <;> omega
end Go.Proofs.YtclegbgmhimenaaDoor.Eng.K

/- The first layer's long division: one digit of the quotient. -/
set_option linter.unusedVariables false
set_option linter.unusedSimpArgs false
namespace Go.Proofs.YtclegbgmhimenaaDoor.Eng.K
open Go.RowKit

/-! ### the guess -/
theorem guess_up {U3 V2 P ul vl Q : Nat} (hP : 0 < P) (hul : ul < P) (hQ : Q * (V2 * P + vl) ≤ U3 * P + ul) : Q * V2 ≤ U3 := by
  have h1 : Q * V2 * P ≤ Q * (V2 * P + vl) := by rw [Nat.mul_add, Nat.mul_assoc]; omega
  have h2 : Q * V2 * P < (U3 + 1) * P := by rw [Nat.add_mul, Nat.one_mul]; omega
  have := Nat.lt_of_mul_lt_mul_right h2
  omega
theorem guess_low {U3 V2 P ul vl g B : Nat} (hP : 0 < P) (hg : g * V2 ≤ U3) (hB : g < B) (hvl : vl < P) (hv : B * P ≤ V2 * P + vl) : g * (V2 * P + vl) < (U3 * P + ul) + (V2 * P + vl) := by
  have h1 : g * V2 * P ≤ U3 * P := Nat.mul_le_mul_right _ hg
  have h2 : g * vl ≤ g * P := Nat.mul_le_mul_left _ (by omega)
  have h3 : g * P < B * P := Nat.mul_lt_mul_of_pos_right hB hP
  rw [Nat.mul_add, ← Nat.mul_assoc]
  omega
theorem guess_test {g left v1 v2 top u2 B : Nat} (h : left + g * v1 = top) : g * (v1 * B + v2) ≤ top * B + u2 ↔ g * v2 ≤ left * B + u2 := by
  rw [← h, Nat.mul_add, Nat.add_mul, ← Nat.mul_assoc]; omega
theorem guess_break {g left v1 v2 top u2 B : Nat} (h : left + g * v1 = top) (ht : top < v1 * B + B) (hl : B ≤ left) (hv : v2 < B) : g < B ∧ g * (v1 * B + v2) ≤ top * B + u2 := by
  have hg : g < B := by
    rcases Nat.lt_or_ge g B with h1 | h1
    · exact h1
    · have := Nat.mul_le_mul_right v1 h1
      rw [Nat.mul_comm B] at this
      omega
  refine ⟨hg, (guess_test h).2 ?_⟩
  have h1 : g * v2 ≤ B * B := Nat.mul_le_mul (by omega) (by omega)
  have h2 : B * B ≤ left * B := Nat.mul_le_mul_right _ hl
  omega
theorem u64_n {n : Nat} (h : n < 18446744073709551616) : IntKind.u64.wrap (n : Int) = (n : Int) := u64 (by omega) (by omega)
theorem mul_lt64 {a b : Nat} (ha : a < 4294967296) (hb : b < 4294967296) : a * b ≤ 18446744065119617025 := by
  have := Nat.mul_le_mul (show a ≤ 4294967295 by omega) (show b ≤ 4294967295 by omega)
  omega
theorem or_dign (a b : Nat) (ha : a < 4294967296) (hb : b < 4294967296) : Go.bits .or .u64 (IntKind.u64.wrap ((a : Int) * 4294967296)) (b : Int) = ((a * 4294967296 + b : Nat) : Int) := by
  have e : (a : Int) * 4294967296 = ((a * 4294967296 : Nat) : Int) := by omega
  rw [e, u64_n (by omega), ← e, or_digit (by omega) (by omega)]; omega
theorem step_l0 {u v : List Int} {n v1 v2 u2 top Q : Nat} (hn : 2 ≤ n) (hnb : n < 1000000000) (hv : v.length = n) (hu : u.length = n + 1)
    (h1 : rd v ((n - 1 : Nat) : Int) = (v1 : Int)) (h2 : rd v ((n - 2 : Nat) : Int) = (v2 : Int)) (h3 : rd u ((n - 2 : Nat) : Int) = (u2 : Int))
    (b1 : v1 < 4294967296) (b2 : v2 < 4294967296) (b3 : u2 < 4294967296) (ht : top < v1 * 4294967296 + 4294967296)
    (hQ : Q * (v1 * 4294967296 + v2) ≤ top * 4294967296 + u2) (hQB : Q < 4294967296) {res : Int × List Int}
    (H : ∀ G : Nat, G < 4294967296 → Q ≤ G → G * (v1 * 4294967296 + v2) ≤ top * 4294967296 + u2 → Ev (fun k => nat_step.l1 k u v n G 0 0 v (v.length : Int) 0) res) :
    ∀ (g left : Nat), Q ≤ g → left + g * v1 = top → left < 4294967296 → g < 18446744073709551616 → Ev (fun k => nat_step.l0 k u v n g left) res
  | g, left, hg, hl, hlb, hgb => by
    have e1 : wrap64 ((n : Int) - 1) = ((n - 1 : Nat) : Int) := by unfold wrap64; omega
    have e2 : wrap64 ((n : Int) - 2) = ((n - 2 : Nat) : Int) := by unfold wrap64; omega
    -- what follows when the guess is above
    have tru : Q < g → Ev (fun k => if 0 ≤ ((n - 1 : Nat) : Int) then (if ((n - 1 : Nat) : Int) < (v.length : Int) then (if (IntKind.u64.wrap ((left : Int) + (v1 : Int))) ≥ 4294967296 then (nat_step.l1 k u v n (IntKind.u64.wrap ((g : Int) - 1)) 0 0 v (v.length : Int) 0) else (nat_step.l0 k u v n (IntKind.u64.wrap ((g : Int) - 1)) (IntKind.u64.wrap ((left : Int) + (v1 : Int))))) else none) else none) res := by
      intro hlt
      obtain ⟨g', rfl⟩ : ∃ g', g = g' + 1 := ⟨g - 1, by omega⟩
      have e3 : IntKind.u64.wrap (((g' + 1 : Nat) : Int) - 1) = (g' : Int) := by
        rw [show ((g' + 1 : Nat) : Int) - 1 = (g' : Int) by omega]; exact u64_n (by omega)
      have e4 : IntKind.u64.wrap ((left : Int) + (v1 : Int)) = ((left + v1 : Nat) : Int) := by
        rw [← Int.natCast_add]; exact u64_n (by omega)
      have hl2 : (left + v1) + g' * v1 = top := by rw [← hl, Nat.add_mul, Nat.one_mul]; omega
      simp only [e3, e4]
      refine ev_pos nn (ev_pos (by omega) ?_)
      by_cases hb : 4294967296 ≤ left + v1
      · obtain ⟨k1, k2⟩ := guess_break (u2 := u2) hl2 ht hb b2
        (repeat (first | (with_reducible refine ev_pos ?_ ?_; focus (first | omega | assumption | (simp; done) | (simp; omega))) | (with_reducible refine ev_neg ?_ ?_; focus (first | omega | assumption | (simp; done) | (simp; omega))))); exact H g' k1 (by omega) k2
      · (repeat (first | (with_reducible refine ev_pos ?_ ?_; focus (first | omega | assumption | (simp; done) | (simp; omega))) | (with_reducible refine ev_neg ?_ ?_; focus (first | omega | assumption | (simp; done) | (simp; omega))))); exact step_l0 hn hnb hv hu h1 h2 h3 b1 b2 b3 ht hQ hQB H g' (left + v1) (by omega) hl2 (by omega) (by omega)
    refine ev_step ?_
    simp only [nat_step.l0, e1, h1, u64_n (n := v1) (by omega)]
    by_cases hB : 4294967296 ≤ g
    · exact ev_pos (by omega) (tru (by omega))
    · have hm := mul_lt64 (a := g) (b := v2) (by omega) b2
      have e5 : IntKind.u64.wrap ((g : Int) * (v2 : Int)) = ((g * v2 : Nat) : Int) := by
        rw [← Int.natCast_mul]; exact u64_n (by omega)
      refine ev_neg (by omega) ?_
      simp only [e2, h2, h3, u64_n (n := v2) (by omega), u64_n (n := u2) (by omega), e5, or_dign left u2 hlb b3]
      refine ev_pos nn (ev_pos (by omega) (ev_pos nn (ev_pos (by omega) ?_)))
      by_cases hc : g * v2 ≤ left * 4294967296 + u2
      · exact ev_neg (by have := Int.ofNat_le.2 hc; omega) (H g (by omega) hg ((guess_test hl).2 hc))
      · refine ev_pos (by have := Int.ofNat_lt.2 (Nat.lt_of_not_le hc); omega) (tru ?_)
        rcases Nat.lt_or_ge Q g with h | h
        · exact h
        · have : g = Q := by omega
          subst this
          exact absurd ((guess_test hl).1 hQ) hc
termination_by g => g
end Go.Proofs.YtclegbgmhimenaaDoor.Eng.K

/- The first layer's long division: one row off, and the divisor back. -/
set_option linter.unusedVariables false
set_option linter.unusedSimpArgs false
namespace Go.Proofs.YtclegbgmhimenaaDoor.Eng.K
open Go.RowKit

theorem pow_s (n : Nat) : (4294967296 : Nat) ^ (n + 1) = 4294967296 ^ n * 4294967296 := Nat.pow_succ ..
def bw (x y : Nat) : Nat := if x < y then 1 else 0
def msRec (g : Nat) : List Int → List Int → Nat → Nat → List Int × Nat
  | d :: v, x :: u, c, b =>
    let r := msRec g v u ((c + g * d.toNat) / 4294967296) (bw x.toNat ((c + g * d.toNat) % 4294967296 + b))
    ((x - (((c + g * d.toNat) % 4294967296 : Nat) : Int) - (b : Int)) % 4294967296 :: r.1, r.2)
  | [], x :: u, c, b => ((x - (c : Int) - (b : Int)) % 4294967296 :: u, bw x.toNat (c + b))
  | _, [], c, b => ([], b)
theorem dig_sub {x t b : Nat} (hx : x < 4294967296) (ht : t < 4294967296) (hb : b ≤ 1) : (((x : Int) - (t : Int) - (b : Int)) % 4294967296).toNat + t + b = x + bw x (t + b) * 4294967296 := by
  unfold bw; split <;> omega
theorem carry_lt {g d c : Nat} (hg : g < 4294967296) (hd : d < 4294967296) (hc : c < 4294967296) : (c + g * d) / 4294967296 < 4294967296 := by
  have := mul_lt64 hg hd; omega
theorem bw_le (x y : Nat) : bw x y ≤ 1 := by unfold bw; split <;> omega
theorem msRec_V {g : Nat} (hg : g < 4294967296) : ∀ (v u : List Int) (c b : Nat), Dg v → Dg u → u.length = v.length + 1 → c < 4294967296 → b ≤ 1 →
    V (msRec g v u c b).1 + g * V v + c + b = V u + (msRec g v u c b).2 * 4294967296 ^ (v.length + 1) ∧ Dg (msRec g v u c b).1 ∧ (msRec g v u c b).1.length = u.length ∧ (msRec g v u c b).2 ≤ 1
  | [], x :: u, c, b, hv, hu, hl, hc, hb => by
    have hx := hu.head
    have : u = [] := List.eq_nil_of_length_eq_zero (by simpa using hl)
    subst this
    obtain ⟨X, rfl⟩ := Int.eq_ofNat_of_zero_le hx.1
    have h := dig_sub (x := X) (t := c) (b := b) (by omega) hc hb
    simp only [msRec, V_cons, V_nil, List.length_nil, Int.toNat_natCast, Nat.zero_add, Nat.pow_one]
    refine ⟨by omega, Dg.cons (by omega) (by omega) Dg.nil, rfl, bw_le _ _⟩
  | d :: v, x :: u, c, b, hv, hu, hl, hc, hb => by
    have hx := hu.head; have hd := hv.head
    obtain ⟨X, rfl⟩ := Int.eq_ofNat_of_zero_le hx.1
    obtain ⟨Y, rfl⟩ := Int.eq_ofNat_of_zero_le hd.1
    have hcl := carry_lt (d := Y) hg (by omega) hc
    have h := dig_sub (x := X) (t := (c + g * Y) % 4294967296) (b := b) (by omega) (by omega) hb
    have ih := msRec_V hg v u _ _ hv.tail hu.tail (by simpa using hl) hcl (bw_le X ((c + g * Y) % 4294967296 + b))
    have hdm := Nat.div_add_mod (c + g * Y) 4294967296
    simp only [msRec, V_cons, List.length_cons, Int.toNat_natCast]
    generalize msRec g v u ((c + g * Y) / 4294967296) (bw X ((c + g * Y) % 4294967296 + b)) = r at *
    refine ⟨?_, Dg.cons (by omega) (by omega) ih.2.1, by rw [ih.2.2.1], ih.2.2.2⟩
    have e1 := ih.1
    rw [pow_s (v.length + 1), Nat.mul_add g, Nat.mul_left_comm g]
    generalize 4294967296 ^ (v.length + 1) = p at *
    rw [← Nat.mul_assoc r.2]
    generalize r.2 * p = rp at *
    generalize g * V v = gv at *
    generalize g * Y = gy at *
    generalize bw X ((c + gy) % 4294967296 + b) = o at *
    omega
def abRec : List Int → List Int → Nat → List Int
  | d :: v, x :: u, c => (x + d + (c : Int)) % 4294967296 :: abRec v u ((x.toNat + d.toNat + c) / 4294967296)
  | [], x :: u, c => (x + (c : Int)) % 4294967296 :: u
  | _, [], c => []
theorem abRec_V : ∀ (v u : List Int) (c : Nat), Dg v → Dg u → u.length = v.length + 1 → c ≤ 1 →
    (∃ o : Nat, V (abRec v u c) + o * 4294967296 ^ (v.length + 1) = V u + V v + c) ∧ Dg (abRec v u c) ∧ (abRec v u c).length = u.length
  | [], x :: u, c, hv, hu, hl, hc => by
    have hx := hu.head
    have : u = [] := List.eq_nil_of_length_eq_zero (by simpa using hl)
    subst this
    obtain ⟨X, rfl⟩ := Int.eq_ofNat_of_zero_le hx.1
    simp only [abRec, V_cons, V_nil, List.length_nil, Int.toNat_natCast, Nat.zero_add, Nat.pow_one]
    refine ⟨⟨(X + c) / 4294967296, by omega⟩, Dg.cons (by omega) (by omega) Dg.nil, rfl⟩
  | d :: v, x :: u, c, hv, hu, hl, hc => by
    have hx := hu.head; have hd := hv.head
    obtain ⟨X, rfl⟩ := Int.eq_ofNat_of_zero_le hx.1
    obtain ⟨Y, rfl⟩ := Int.eq_ofNat_of_zero_le hd.1
    have ih := abRec_V v u ((X + Y + c) / 4294967296) hv.tail hu.tail (by simpa using hl) (by omega)
    simp only [abRec, V_cons, List.length_cons, Int.toNat_natCast]
    generalize abRec v u ((X + Y + c) / 4294967296) = r at *
    obtain ⟨⟨o, e1⟩, e2, e3⟩ := ih
    refine ⟨⟨o, ?_⟩, Dg.cons (by omega) (by omega) e2, by rw [e3]⟩
    rw [pow_s (v.length + 1)]
    generalize 4294967296 ^ (v.length + 1) = p at *
    rw [← Nat.mul_assoc o]
    generalize o * p = rp at *
    omega
/-- the loop that puts the divisor back -/
theorem step_l2 (Vl : List Int) (hV : Dg Vl) (hl : Vl.length < 1000000000) (G : Nat) (hG0 : 0 < G) (hG : G < 4294967297) : ∀ (v pv done u : List Int) (c : Nat), Vl = pv ++ v → done.length = pv.length → u.length = v.length + 1 → Dg u → c ≤ 1 →
    Ev (fun k => nat_step.l2 k (done ++ u) Vl.length G c Vl Vl.length pv.length) (((G - 1 : Nat) : Int), done ++ abRec v u c)
  | [], pv, done, u, c, he, hd, hlu, hu, hc => by
    have hlen : Vl.length = pv.length := by rw [he]; simp
    obtain ⟨x, rfl⟩ := List.length_eq_one_iff.1 (show u.length = 1 by simpa using hlu)
    have hx := hu.head
    refine ev_step ?_
    simp only [nat_step.l2]
    (repeat (first | (with_reducible refine ev_pos ?_ ?_; focus (first | omega | assumption | (simp; done) | (simp; omega))) | (with_reducible refine ev_neg ?_ ?_; focus (first | omega | assumption | (simp; done) | (simp; omega)))))
    refine ev_eq (Ev.now _) ?_
    have e3 : IntKind.u64.wrap ((G : Int) - 1) = ((G - 1 : Nat) : Int) := by
      rw [show (G : Int) - 1 = ((G - 1 : Nat) : Int) by omega]; exact u64_n (by omega)
    rw [e3, rd_app (xs := done) (ys := []) (y := x) (by omega), set_app (by omega)]
    simp [abRec]; omega
  | d :: v, pv, done, u, c, he, hd, hlu, hu, hc => by
    have hlen : Vl.length = pv.length + 1 + v.length := by rw [he]; simp; omega
    obtain ⟨x, u, rfl⟩ := List.exists_cons_of_ne_nil (show u ≠ [] by intro e; rw [e] at hlu; simp at hlu)
    have hx := hu.head
    have hdd : 0 ≤ d ∧ d < 4294967296 := by rw [he] at hV; exact hV.right.head
    refine ev_step ?_
    simp only [nat_step.l2, w64s (n := pv.length) (by omega)]
    have h1 : rd Vl (pv.length : Int) = d := by rw [he]; exact rd_app rfl
    have h2 : rd (done ++ x :: u) (pv.length : Int) = x := rd_app (by omega)
    rw [h1, h2]
    (repeat (first | (with_reducible refine ev_pos ?_ ?_; focus (first | omega | assumption | (simp; done) | (simp; omega))) | (with_reducible refine ev_neg ?_ ?_; focus (first | omega | assumption | (simp; done) | (simp; omega)))))
    refine ev_bind (add32_eq hx hdd (by omega)) ?_
    rw [set_app (by omega)]
    have := step_l2 Vl hV hl G hG0 hG v (pv ++ [d]) (done ++ [(x + d + (c : Int)) % 4294967296]) u ((x.toNat + d.toNat + c) / 4294967296) (by rw [he]; simp) (by simp [hd]) (by simpa using hlu) hu.tail (by omega)
    rw [List.length_append, List.length_singleton] at this
    have e4 : (x + d + (c : Int)) / 4294967296 = (((x.toNat + d.toNat + c) / 4294967296 : Nat) : Int) := by omega
    simp only [e4]
    (repeat (first | (with_reducible refine ev_pos ?_ ?_; focus (first | omega | assumption | (simp; done) | (simp; omega))) | (with_reducible refine ev_neg ?_ ?_; focus (first | omega | assumption | (simp; done) | (simp; omega)))))
    refine ev_eq this ?_
    simp [abRec]
end Go.Proofs.YtclegbgmhimenaaDoor.Eng.K

/- The first layer's long division: a digit of the quotient. -/
set_option linter.unusedVariables false
set_option linter.unusedSimpArgs false
namespace Go.Proofs.YtclegbgmhimenaaDoor.Eng.K
open Go.RowKit

theorem V_inj : ∀ (a b : List Int), Dg a → Dg b → a.length = b.length → V a = V b → a = b
  | [], [], _, _, _, _ => rfl
  | [], y :: b, _, _, h, _ => by simp at h
  | x :: a, [], _, _, h, _ => by simp at h
  | x :: a, y :: b, ha, hb, h, e => by
    have h1 := ha.head; have h2 := hb.head
    simp only [V_cons] at e
    have h3 : x = y := by omega
    subst h3
    rw [V_inj a b ha.tail hb.tail (by simpa using h) (by omega)]
/-- n's digits, k of them -/
def Dk (k n : Nat) : List Int := D n ++ List.replicate (k - (D n).length) 0
theorem Dk_V (k n : Nat) : V (Dk k n) = n := by unfold Dk; rw [V_append, V_zeros, V_D]; simp
theorem Dk_Dg (k n : Nat) : Dg (Dk k n) := (Dg_D n).app (Dg.zeros _)
theorem Dk_len {k n : Nat} (h : n < 4294967296 ^ k) : (Dk k n).length = k := by
  have := D_lt h
  unfold Dk; simp; omega
theorem Dk_eq {k n : Nat} {l : List Int} (h : Dg l) (hl : l.length = k) (hv : V l = n) : l = Dk k n := by
  have hk : n < 4294967296 ^ k := by rw [← hv, ← hl]; exact V_lt h
  exact V_inj _ _ h (Dk_Dg k n) (by rw [hl, Dk_len hk]) (by rw [hv, Dk_V])
theorem bw_int {X Y : Nat} : (if (X : Int) < (Y : Int) then (1 : Int) else 0) = ((bw X Y : Nat) : Int) := by
  unfold bw; split <;> split <;> omega
theorem step_l1 (Vl : List Int) (hV : Dg Vl) (hl : Vl.length < 1000000000) (G : Nat) (hG : G < 4294967296) : ∀ (v pv done u : List Int) (c b : Nat), Vl = pv ++ v → done.length = pv.length → Dg done → u.length = v.length + 1 → Dg u → c < 4294967296 → b ≤ 1 → ((msRec G v u c b).2 ≠ 0 → 0 < G) →
    Ev (fun k => nat_step.l1 k (done ++ u) Vl Vl.length G b c Vl Vl.length pv.length) (if (msRec G v u c b).2 = 0 then ((G : Int), done ++ (msRec G v u c b).1) else (((G - 1 : Nat) : Int), abRec Vl (done ++ (msRec G v u c b).1) 0))
  | [], pv, done, u, c, b, he, hd, hdg, hlu, hu, hc, hb, hG0 => by
    have hlen : Vl.length = pv.length := by rw [he]; simp
    have hms := msRec_V hG [] u c b Dg.nil hu hlu hc hb
    obtain ⟨x, rfl⟩ := List.length_eq_one_iff.1 (show u.length = 1 by simpa using hlu)
    have hx := hu.head
    obtain ⟨X, rfl⟩ := Int.eq_ofNat_of_zero_le hx.1
    have e0 : (c : Int) % 4294967296 = (c : Int) := by omega
    have e1 : (X : Int) - (c : Int) - (b : Int) = (X : Int) - (c : Int) - (b : Int) := rfl
    have e2 : (G : Int) % 4294967296 = (G : Int) := by omega
    refine ev_step ?_
    simp only [nat_step.l1, e0]
    (repeat (first | (with_reducible refine ev_pos ?_ ?_; focus (first | omega | assumption | (simp; done) | (simp; omega))) | (with_reducible refine ev_neg ?_ ?_; focus (first | omega | assumption | (simp; done) | (simp; omega)))))
    rw [rd_app (xs := done) (ys := []) (y := (X : Int)) (by omega)]
    refine ev_bind (sub32_eq hx (by omega) (by omega)) ?_
    rw [set_app (by omega), ← Int.natCast_add, bw_int]
    simp only [Option.bind_some, e2]
    have hm : msRec G [] [(X : Int)] c b = ([((X : Int) - (c : Int) - (b : Int)) % 4294967296], bw X (c + b)) := by simp [msRec]
    rw [hm] at hms hG0 ⊢
    have hap : done ++ [((X : Int) - (c : Int) - (b : Int)) % 4294967296] ++ [] = done ++ [((X : Int) - (c : Int) - (b : Int)) % 4294967296] := List.append_nil _
    rw [hap]
    by_cases h0 : bw X (c + b) = 0
    · simp only [h0]
      (repeat (first | (with_reducible refine ev_pos ?_ ?_; focus (first | omega | assumption | (simp; done) | (simp; omega))) | (with_reducible refine ev_neg ?_ ?_; focus (first | omega | assumption | (simp; done) | (simp; omega)))))
      exact ev_eq (Ev.now _) (by simp)
    · simp only [if_neg h0]
      (repeat (first | (with_reducible refine ev_pos ?_ ?_; focus (first | omega | assumption | (simp; done) | (simp; omega))) | (with_reducible refine ev_neg ?_ ?_; focus (first | omega | assumption | (simp; done) | (simp; omega)))))
      have := step_l2 Vl hV hl G (hG0 h0) (by omega) Vl [] [] (done ++ [((X : Int) - (c : Int) - (b : Int)) % 4294967296]) 0 rfl rfl (by simp; omega) (hdg.app hms.2.1) (by omega)
      simpa using this
  | d :: v, pv, done, u, c, b, he, hd, hdg, hlu, hu, hc, hb, hG0 => by
    have hlen : Vl.length = pv.length + 1 + v.length := by rw [he]; simp; omega
    obtain ⟨x, u, rfl⟩ := List.exists_cons_of_ne_nil (show u ≠ [] by intro e; rw [e] at hlu; simp at hlu)
    have hx := hu.head
    have hdd : 0 ≤ d ∧ d < 4294967296 := by rw [he] at hV; exact hV.right.head
    obtain ⟨X, rfl⟩ := Int.eq_ofNat_of_zero_le hx.1
    obtain ⟨Y, rfl⟩ := Int.eq_ofNat_of_zero_le hdd.1
    have hcl := carry_lt (d := Y) hG (by omega) hc
    have hm64 := mul_lt64 (a := G) (b := Y) hG (by omega)
    have h1 : rd Vl (pv.length : Int) = (Y : Int) := by rw [he]; exact rd_app rfl
    have h2 : rd (done ++ (X : Int) :: u) (pv.length : Int) = (X : Int) := rd_app (by omega)
    have e5 : IntKind.u64.wrap ((c : Int) + (IntKind.u64.wrap ((G : Int) * (IntKind.u64.wrap (Y : Int))))) = ((c + G * Y : Nat) : Int) := by
      rw [u64_n (n := Y) (by omega), ← Int.natCast_mul, u64_n (by omega), ← Int.natCast_add]
      exact u64_n (by omega)
    have e6 : ((c + G * Y : Nat) : Int) % 4294967296 = (((c + G * Y) % 4294967296 : Nat) : Int) := by generalize c + G * Y = t; omega
    have e7 : ((c + G * Y : Nat) : Int) / 4294967296 = (((c + G * Y) / 4294967296 : Nat) : Int) := by generalize c + G * Y = t; omega
    refine ev_step ?_
    simp only [nat_step.l1, h1, h2, e5, e6, e7, w64s (n := pv.length) (by omega)]
    (repeat (first | (with_reducible refine ev_pos ?_ ?_; focus (first | omega | assumption | (simp; done) | (simp; omega))) | (with_reducible refine ev_neg ?_ ?_; focus (first | omega | assumption | (simp; done) | (simp; omega)))))
    refine ev_bind (sub32_eq hx (by omega) (by omega)) ?_
    rw [set_app (by omega), ← Int.natCast_add, bw_int]
    have hbd : 0 ≤ ((X : Int) - (((c + G * Y) % 4294967296 : Nat) : Int) - (b : Int)) % 4294967296 ∧ ((X : Int) - (((c + G * Y) % 4294967296 : Nat) : Int) - (b : Int)) % 4294967296 < 4294967296 := by omega
    have := step_l1 Vl hV hl G hG v (pv ++ [(Y : Int)]) (done ++ [((X : Int) - (((c + G * Y) % 4294967296 : Nat) : Int) - (b : Int)) % 4294967296]) u ((c + G * Y) / 4294967296) (bw X ((c + G * Y) % 4294967296 + b)) (by rw [he]; simp) (by simp [hd]) (hdg.app (Dg.cons hbd.1 hbd.2 Dg.nil)) (by simpa using hlu) hu.tail hcl (bw_le _ _) (by simpa [msRec] using hG0)
    rw [List.length_append, List.length_singleton] at this
    (repeat (first | (with_reducible refine ev_pos ?_ ?_; focus (first | omega | assumption | (simp; done) | (simp; omega))) | (with_reducible refine ev_neg ?_ ?_; focus (first | omega | assumption | (simp; done) | (simp; omega)))))
    refine ev_eq this ?_
    simp only [msRec, Int.toNat_natCast, List.append_assoc, List.singleton_append]
    rfl
theorem top_le (T U2 P w : Nat) : T * (P * 4294967296) ≤ (T * 4294967296 + U2) * P + w := by
  rw [Nat.mul_comm P, ← Nat.mul_assoc, Nat.add_mul, Nat.add_assoc]; exact Nat.le_add_right _ _
theorem dm1 (Q a b c : Nat) : Q * a * c ≤ Q * (a * c + b) := by rw [Nat.mul_add, ← Nat.mul_assoc]; exact Nat.le_add_right _ _
theorem tdiv_n (a b : Nat) : Int.tdiv (a : Int) (b : Int) = ((a / b : Nat) : Int) := rfl
theorem tmod_n (a b : Nat) : Int.tmod (a : Int) (b : Int) = ((a % b : Nat) : Int) := rfl
theorem split2 {v : List Int} {n : Nat} (h : v.length = n + 2) : ∃ vl v2 v1, v = vl ++ [v2, v1] ∧ vl.length = n := by
  rcases List.eq_nil_or_concat v with rfl | ⟨a, d, rfl⟩
  · simp at h
  rcases List.eq_nil_or_concat a with rfl | ⟨b, e, rfl⟩
  · simp at h
  exact ⟨b, e, d, by simp, by simp at h; omega⟩
theorem split3 {u : List Int} {n : Nat} (h : u.length = n + 3) : ∃ ul u2 u1 u0, u = ul ++ [u2, u1, u0] ∧ ul.length = n := by
  rcases List.eq_nil_or_concat u with rfl | ⟨a, d, rfl⟩
  · simp at h
  obtain ⟨ul, u2, u1, rfl, h2⟩ := split2 (v := a) (n := n) (by simp at h; omega)
  exact ⟨ul, u2, u1, d, by simp, h2⟩
theorem rd_at {l : List Int} {n : Nat} {pre post : List Int} {y : Int} (h : l = pre ++ y :: post) (hn : pre.length = n) : rd l (n : Int) = y := by
  rw [h]; exact rd_app (by omega)
theorem nat_step_ev {u v : List Int} {m : Nat} (hv : Dg v) (hu : Dg u) (lv : v.length = m + 2) (lu : u.length = m + 3) (hm : m < 100000000) (htop : 4294967296 ^ (m + 1) ≤ V v) (hlt : V u < V v * 4294967296) :
    Ev (fun k => nat_step.f k u v) (((V u / V v : Nat) : Int), Dk (m + 3) (V u % V v)) := by
  obtain ⟨vl, v2, v1, rfl, lvl⟩ := split2 lv
  obtain ⟨ul, u2, u1, u0, rfl, lul⟩ := split3 lu
  have d2 := hv v2 (by simp); have d1 := hv v1 (by simp)
  have c2 := hu u2 (by simp); have c1 := hu u1 (by simp); have c0 := hu u0 (by simp)
  obtain ⟨V1, rfl⟩ := Int.eq_ofNat_of_zero_le d1.1
  obtain ⟨V2, rfl⟩ := Int.eq_ofNat_of_zero_le d2.1
  obtain ⟨U2, rfl⟩ := Int.eq_ofNat_of_zero_le c2.1
  obtain ⟨U1, rfl⟩ := Int.eq_ofNat_of_zero_le c1.1
  obtain ⟨U0, rfl⟩ := Int.eq_ofNat_of_zero_le c0.1
  have hP : 0 < 4294967296 ^ m := Nat.pow_pos (by omega)
  have hvl := V_lt hv.left; rw [lvl] at hvl
  have hul := V_lt hu.left; rw [lul] at hul
  have eV : V (vl ++ [(V2 : Int), (V1 : Int)]) = (V1 * 4294967296 + V2) * 4294967296 ^ m + V vl := by
    rw [V_append, lvl]; simp only [V_cons, V_nil, Int.toNat_natCast]
    rw [Nat.mul_comm (4294967296 ^ m), Nat.add_comm, show V2 + 4294967296 * (V1 + 4294967296 * 0) = V1 * 4294967296 + V2 by omega]
  have eU : V (ul ++ [(U2 : Int), (U1 : Int), (U0 : Int)]) = ((U0 * 4294967296 + U1) * 4294967296 + U2) * 4294967296 ^ m + V ul := by
    rw [V_append, lul]; simp only [V_cons, V_nil, Int.toNat_natCast]
    rw [Nat.mul_comm (4294967296 ^ m), Nat.add_comm, show U2 + 4294967296 * (U1 + 4294967296 * (U0 + 4294967296 * 0)) = (U0 * 4294967296 + U1) * 4294967296 + U2 by omega]
  have hpm := pow_s m
  have hvv := V_lt hv; rw [lv] at hvv
  have hvpos : 0 < V (vl ++ [(V2 : Int), (V1 : Int)]) := Nat.lt_of_lt_of_le (by rw [hpm]; omega) htop
  have hms0 := fun G (hG : G < 4294967296) => msRec_V (g := G) hG (vl ++ [(V2 : Int), (V1 : Int)]) (ul ++ [(U2 : Int), (U1 : Int), (U0 : Int)]) 0 0 hv hu (by rw [lv, lu]) (by omega) (by omega)
  have hab0 := fun r (hr : Dg r) (hl : r.length = m + 3) => abRec_V (vl ++ [(V2 : Int), (V1 : Int)]) r 0 hv hr (by rw [lv, hl]) (by omega)
  have hl1 := fun G (hG : G < 4294967296) => step_l1 (vl ++ [(V2 : Int), (V1 : Int)]) hv (by omega) G hG (vl ++ [(V2 : Int), (V1 : Int)]) [] [] (ul ++ [(U2 : Int), (U1 : Int), (U0 : Int)]) 0 0 rfl rfl Dg.nil (by rw [lv, lu]) hu (by omega) (by omega)
  have r1 : rd (vl ++ [(V2 : Int), (V1 : Int)]) ((m + 1 : Nat) : Int) = (V1 : Int) := rd_at (pre := vl ++ [(V2 : Int)]) (post := []) (by simp) (by simp [lvl])
  have r2 : rd (vl ++ [(V2 : Int), (V1 : Int)]) ((m : Nat) : Int) = (V2 : Int) := rd_at (pre := vl) (post := [(V1 : Int)]) rfl lvl
  have s2 : rd (ul ++ [(U2 : Int), (U1 : Int), (U0 : Int)]) ((m : Nat) : Int) = (U2 : Int) := rd_at (pre := ul) (post := [(U1 : Int), (U0 : Int)]) rfl lul
  have s1 : rd (ul ++ [(U2 : Int), (U1 : Int), (U0 : Int)]) ((m + 1 : Nat) : Int) = (U1 : Int) := rd_at (pre := ul ++ [(U2 : Int)]) (post := [(U0 : Int)]) (by simp) (by simp [lul])
  have s0 : rd (ul ++ [(U2 : Int), (U1 : Int), (U0 : Int)]) ((m + 2 : Nat) : Int) = (U0 : Int) := rd_at (pre := ul ++ [(U2 : Int), (U1 : Int)]) (post := []) (by simp) (by simp [lul])
  generalize hvE : vl ++ [(V2 : Int), (V1 : Int)] = v at *
  generalize huE : ul ++ [(U2 : Int), (U1 : Int), (U0 : Int)] = u at *
  have hv1 : 0 < V1 := by
    rcases Nat.eq_zero_or_pos V1 with h | h
    · exfalso
      subst h
      have h3 : (0 * 4294967296 + V2) * 4294967296 ^ m + V vl < 4294967296 * 4294967296 ^ m := by
        have h4 : (V2 + 1) * 4294967296 ^ m ≤ 4294967296 * 4294967296 ^ m := Nat.mul_le_mul_right _ (by omega)
        rw [Nat.add_mul] at h4
        rw [Nat.zero_mul, Nat.zero_add]; omega
      rw [← eV, Nat.mul_comm, ← hpm] at h3
      omega
    · exact h
  have hQB : V u / V v < 4294967296 := by rw [Nat.div_lt_iff_lt_mul hvpos, Nat.mul_comm]; exact hlt
  have hQ0 : V u / V v * V v ≤ V u := Nat.div_mul_le_self _ _
  have hR : V u % V v < V v := Nat.mod_lt _ hvpos
  have hdm : V v * (V u / V v) + V u % V v = V u := Nat.div_add_mod _ _
  have hdl0 : ∀ g, g * V v ≤ V u → g ≤ V u / V v := fun g h => (Nat.le_div_iff_mul_le hvpos).2 h
  generalize V u / V v = Qq at *
  generalize V u % V v = Rr at *
  have hQ2 : Qq * (V1 * 4294967296 + V2) ≤ (U0 * 4294967296 + U1) * 4294967296 + U2 := by
    refine guess_up (vl := V vl) hP hul ?_
    rw [← eV, ← eU]; exact hQ0
  have htl : U0 * 4294967296 + U1 < V1 * 4294967296 + 4294967296 := by
    have h1 : (U0 * 4294967296 + U1) * (4294967296 ^ m * 4294967296) < (V1 * 4294967296 + 4294967296) * (4294967296 ^ m * 4294967296) := by
      have h2 : (U0 * 4294967296 + U1) * (4294967296 ^ m * 4294967296) ≤ V u := by
        rw [eU]; exact top_le _ _ _ _
      have h3 : V v * 4294967296 ≤ (V1 * 4294967296 + 4294967296) * (4294967296 ^ m * 4294967296) := by
        rw [← Nat.mul_assoc]
        refine Nat.mul_le_mul_right _ ?_
        rw [eV]
        have h4 : (V1 * 4294967296 + V2 + 1) * 4294967296 ^ m ≤ (V1 * 4294967296 + 4294967296) * 4294967296 ^ m := Nat.mul_le_mul_right _ (by omega)
        rw [Nat.add_mul _ 1, Nat.one_mul] at h4
        omega
      omega
    exact Nat.lt_of_mul_lt_mul_right h1
  have H : ∀ G : Nat, G < 4294967296 → Qq ≤ G → G * (V1 * 4294967296 + V2) ≤ (U0 * 4294967296 + U1) * 4294967296 + U2 → Ev (fun k => nat_step.l1 k u v ((m + 2 : Nat) : Int) G 0 0 v (v.length : Int) 0) (((Qq : Nat) : Int), Dk (m + 3) (Rr)) := by
    intro G hG hge hg2
    have hlow : G * V v < V u + V v := by
      have := guess_low (ul := V ul) (B := 4294967296) hP hg2 hG hvl (by rw [← eV, Nat.mul_comm, ← hpm]; exact htop)
      rwa [← eV, ← eU] at this
    have hGQ : G = Qq ∨ G = Qq + 1 := by
      have h1 : (G - 1) * V v ≤ V u := by
        rcases Nat.eq_zero_or_pos G with h | h
        · subst h; simp
        · obtain ⟨g, rfl⟩ : ∃ g, G = g + 1 := ⟨G - 1, by omega⟩
          rw [Nat.add_mul, Nat.one_mul] at hlow
          simp; omega
      have := hdl0 _ h1
      omega
    obtain ⟨m1, m2, m3, m4⟩ := hms0 G hG
    have hl := hl1 G hG
    rw [lv] at m1
    rw [lu] at m3
    have m5 := V_lt m2; rw [m3] at m5
    have ab := hab0 _ m2 m3
    rw [lv] at ab
    generalize msRec G v u 0 0 = r at *
    obtain ⟨⟨o, ab1⟩, ab2, ab3⟩ := ab
    have ab4 := V_lt ab2; rw [ab3, m3] at ab4
    rw [show m + 2 + 1 = m + 3 from rfl] at m1 ab1
    have hvM : V v < 4294967296 ^ (m + 3) := by
      rw [pow_s (m + 2)]; omega
    generalize hM : 4294967296 ^ (m + 3) = M at *
    have hgv : ∀ q, q * V v = V v * q := fun q => Nat.mul_comm _ _
    have key : (if r.2 = 0 then ((G : Int), [] ++ r.1) else (((G - 1 : Nat) : Int), abRec v ([] ++ r.1) 0)) = (((Qq : Nat) : Int), Dk (m + 3) (Rr)) ∧ (r.2 ≠ 0 → 0 < G) := by
      have hmul : G = Qq + 1 → G * V v = V v * (Qq) + V v := fun h => by rw [h, Nat.mul_comm, Nat.mul_add, Nat.mul_one]
      have hmul0 : G = Qq → G * V v = V v * (Qq) := fun h => by rw [Nat.mul_comm, h]
      by_cases h0 : r.2 = 0
      · rw [h0, Nat.zero_mul] at m1
        have hG2 : G = Qq := by
          rcases hGQ with h | h
          · exact h
          · have := hmul h; omega
        refine ⟨?_, fun h => absurd h0 h⟩
        rw [if_pos h0, List.nil_append, Dk_eq m2 m3 (n := Rr) (by have := hmul0 hG2; omega), ← hG2]
      · have hr1 : r.2 = 1 := by omega
        rw [hr1, Nat.one_mul] at m1
        have hG2 : G = Qq + 1 := by
          rcases hGQ with h | h
          · exfalso; have := hmul0 h; omega
          · exact h
        have hmm := hmul hG2
        refine ⟨?_, fun _ => by omega⟩
        have ho : o = 1 := by
          rcases Nat.lt_or_ge o 1 with h | h
          · have : o = 0 := by omega
            subst this; omega
          · rcases Nat.lt_or_ge 1 o with h2 | h2
            · have := Nat.mul_le_mul_right M h2; omega
            · omega
        subst ho
        rw [if_neg h0, List.nil_append, Dk_eq ab2 (by rw [ab3, m3]) (n := Rr) (by omega)]
        congr 2; omega
    have hl2 := hl key.2
    rw [key.1] at hl2
    rw [lv] at hl2 ⊢
    simpa using hl2
  unfold nat_step.f
  have e1 : wrap64 (((m + 2 : Nat) : Int) - 1) = ((m + 1 : Nat) : Int) := by unfold wrap64; omega
  simp only [lv, lu, e1, r1, s1, s0]
  clear e1
  rw [u64_n (n := U0) (by omega), u64_n (n := U1) (by omega), u64_n (n := V1) (by omega), or_dign U0 U1 (by omega) (by omega)]
  (repeat (first | (with_reducible refine ev_pos ?_ ?_; focus (first | omega | assumption | (simp; done) | (simp; omega))) | (with_reducible refine ev_neg ?_ ?_; focus (first | omega | assumption | (simp; done) | (simp; omega)))))
  have hdl : (U0 * 4294967296 + U1) / V1 ≤ U0 * 4294967296 + U1 := Nat.div_le_self _ _
  rw [tdiv_n, tmod_n, u64_n (n := (U0 * 4294967296 + U1) / V1) (by omega)]
  have hml : (U0 * 4294967296 + U1) % V1 < V1 := Nat.mod_lt _ hv1
  have hdm2 := Nat.mod_add_div (U0 * 4294967296 + U1) V1
  refine step_l0 (n := m + 2) (top := U0 * 4294967296 + U1) (Q := Qq) (by omega) (by omega) lv lu r1 r2 s2 (by omega) (by omega) (by omega) htl hQ2 hQB H _ _ ?_ ?_ (by omega) (by omega)
  · rw [Nat.le_div_iff_mul_le hv1]
    have h1 : Qq * V1 * 4294967296 ≤ Qq * (V1 * 4294967296 + V2) := dm1 _ _ _ _
    have h2 := Nat.le_trans h1 hQ2
    generalize Qq * V1 = z at *
    omega
  · rw [Nat.mul_comm _ V1]; exact hdm2
end Go.Proofs.YtclegbgmhimenaaDoor.Eng.K

/- The first layer's long division. -/
set_option linter.unusedVariables false
set_option linter.unusedSimpArgs false
namespace Go.Proofs.YtclegbgmhimenaaDoor.Eng.K
open Go.RowKit

theorem V_take {l : List Int} (h : Dg l) {n : Nat} (hn : n ≤ l.length) : V (l.take n) = V l % 4294967296 ^ n := by
  have e : V l = V (l.take n) + 4294967296 ^ n * V (l.drop n) := by
    conv => lhs; rw [← List.take_append_drop n l, V_append, List.length_take, Nat.min_eq_left hn]
  rw [e, Nat.add_mul_mod_self_left, Nat.mod_eq_of_lt (V_take_lt h hn)]
theorem lz_ev {x : Int} (h : 0 ≤ x ∧ x < 4294967296) : Ev (fun k => bits_LeadingZeros32.f k x) ((32 - bl x.toNat : Nat) : Int) := by
  have hb : bl x.toNat ≤ 32 := bl_le_of_lt (by omega)
  unfold bits_LeadingZeros32.f
  refine Ev.bind (len32_ev h) (ev_eq (Ev.now _) ?_)
  unfold wrap64; omega
/-- room for one digit more -/
theorem long_l0 {a v : List Int} (s : Int) (ha : a.length < 10000000) {res : List Int × List Int} : ∀ (d : Nat) (u : List Int), u.length + d = a.length + 1 → v.length ≤ a.length →
    Ev (fun k => nat_long.l1 k s v (u ++ List.replicate d 0) v.length (List.replicate (a.length + 1 - v.length) 0) (((a.length + 1 - v.length : Nat) : Int) - 1)) res →
    Ev (fun k => nat_long.l0 k a s v u) res
  | 0, u, hu, hv, H => by
    refine ev_step ?_
    have e1 : wrap64 ((u.length : Int) - (v.length : Int)) = ((a.length + 1 - v.length : Nat) : Int) := by unfold wrap64; omega
    have e2 : wrap64 ((((List.replicate (a.length + 1 - v.length) (0 : Int)).length : Nat) : Int) - 1) = ((a.length + 1 - v.length : Nat) : Int) - 1 := by rw [List.length_replicate]; unfold wrap64; omega
    simp only [nat_long.l0, e1, Int.toNat_natCast, Option.bind_some, e2]
    (repeat (first | (with_reducible refine ev_pos ?_ ?_; focus (first | omega | assumption | (simp; done) | (simp; omega))) | (with_reducible refine ev_neg ?_ ?_; focus (first | omega | assumption | (simp; done) | (simp; omega)))))
    simpa using H
  | d + 1, u, hu, hv, H => by
    refine ev_step ?_
    simp only [nat_long.l0]
    (repeat (first | (with_reducible refine ev_pos ?_ ?_; focus (first | omega | assumption | (simp; done) | (simp; omega))) | (with_reducible refine ev_neg ?_ ?_; focus (first | omega | assumption | (simp; done) | (simp; omega)))))
    refine long_l0 s ha d (u ++ [0]) (by simp; omega) hv ?_
    have e : u ++ [0] ++ List.replicate d 0 = u ++ List.replicate (d + 1) 0 := by rw [List.append_assoc, List.replicate_succ]; rfl
    rw [e]; exact H
theorem div_mod_V (w p : Nat) : w = p * (w / p) + w % p := (Nat.div_add_mod w p).symm
theorem long_nat {B W Y T t R p Vu X L : Nat} (hW : W = T * (Y * (p * B)) + Vu) (hVu : Vu = p * X + L) (hX : X = Y * t + R) : W = (t + B * T) * (Y * p) + (L + p * R) := by
  rw [hW, hVu, hX, Nat.mul_add, Nat.add_mul]
  have e1 : T * (Y * (p * B)) = B * T * (Y * p) := by ac_rfl
  have e2 : p * (Y * t) = t * (Y * p) := by ac_rfl
  rw [e1, e2]; omega
def Pw (n M : Nat) : Prop := M = 4294967296 ^ n
theorem Pw.up {n M x : Nat} (hM : Pw n M) (h : x < M * 4294967296) : x < 4294967296 ^ (n + 1) := by rw [pow_s, ← hM]; exact h
theorem Pw.at {n M x : Nat} (hM : Pw n M) (h : x < M) : x < 4294967296 ^ n := by rw [← hM]; exact h
def Top (v : List Int) (m : Nat) : Prop := 4294967296 ^ (m + 1) ≤ V v
theorem Top.pos {v : List Int} {m : Nat} (h : Top v m) : 0 < V v := Nat.lt_of_lt_of_le (Nat.pow_pos (by omega)) h
theorem long_lt {R Y p L : Nat} (hR : R < Y) (hL : L < p) : L + p * R < Y * p := by
  have := Nat.mul_le_mul_left p (Nat.succ_le_of_lt hR)
  rw [Nat.mul_succ, Nat.mul_comm p Y] at this
  omega
theorem w3 {i m : Nat} (h1 : i < 100000000) (h2 : m < 100000000) : wrap64 (wrap64 ((i : Int) + ((m + 2 : Nat) : Int)) + 1) = ((i + (m + 3) : Nat) : Int) := by unfold wrap64; omega
def Inv (W T Y p Vu : Nat) : Prop := W = T * (Y * p) + Vu ∧ Vu < Y * p
theorem Inv.next {B W T Y p Vu X t R L : Nat} (h : Inv W T Y (p * B) Vu) (h1 : Vu = p * X + L) (h2 : X = Y * t + R) (h3 : R < Y) (h4 : L < p) : Inv W (t + B * T) Y p (L + p * R) :=
  ⟨long_nat h.1 h1 h2, long_lt h3 h4⟩
theorem Inv.quo {W T Y p B Vu : Nat} (h : Inv W T Y (p * B) Vu) (hp : 0 < p) : Vu / p < Y * B := by
  rw [Nat.div_lt_iff_lt_mul hp, Nat.mul_assoc, Nat.mul_comm B p]; exact h.2
theorem Inv.succ {W T Y i Vu : Nat} (h : Inv W T Y (4294967296 ^ (i + 1)) Vu) : Inv W T Y (4294967296 ^ i * 4294967296) Vu := by rw [← pow_s]; exact h
theorem Inv.end {W T Y Vu : Nat} (h : Inv W T Y (4294967296 ^ 0) Vu) (hp : 0 < Y) : W / Y = T ∧ W % Y = Vu ∧ Vu < Y := by
  obtain ⟨h1, h2⟩ := h
  rw [Nat.pow_zero, Nat.mul_one] at h1 h2
  exact ⟨by rw [h1, Nat.mul_comm, Nat.mul_add_div hp, Nat.div_eq_of_lt h2, Nat.add_zero], by rw [h1, Nat.mul_comm, Nat.mul_add_mod, Nat.mod_eq_of_lt h2], h2⟩
theorem piece_V {u : List Int} {i m N : Nat} (hu : Dg u) (lu : u.length = N) (hi : i + (m + 3) ≤ N) (hX : V u / 4294967296 ^ i < 4294967296 ^ (m + 3)) : V ((u.take (i + (m + 3))).drop i) = V u / 4294967296 ^ i ∧ V (u.drop (i + (m + 3))) = 0 := by
  have e : i + (m + 3) - i = m + 3 := Nat.add_sub_cancel_left ..
  constructor
  · rw [List.drop_take, e, V_take (hu.drop i) (by rw [List.length_drop, lu]; clear hX; omega), V_drop hu, Nat.mod_eq_of_lt hX]
  · rw [V_drop hu, Nat.pow_add, ← Nat.div_div_eq_div_mul, Nat.div_eq_of_lt hX]
theorem whole_V {u w : List Int} {i j R : Nat} (hi : i ≤ u.length) (hw : V w = R) (h0 : V (u.drop j) = 0) : V (u.take i ++ w ++ u.drop j) = V (u.take i) + 4294967296 ^ i * R := by
  rw [V_append, h0, V_append, List.length_take, Nat.min_eq_left hi, hw, Nat.mul_zero, Nat.add_zero]
theorem take_split_V {u : List Int} (hu : Dg u) {i : Nat} (hi : i ≤ u.length) : V u = 4294967296 ^ i * (V u / 4294967296 ^ i) + V (u.take i) := by rw [V_take hu hi]; exact div_mod_V _ _
theorem long_l1 {v : List Int} {m N s W : Nat} (hv : Dg v) (lv : v.length = m + 2) (hm : m < 10000000) (hN : N < 10000000) (hs : s < 1000000000) (htop : Top v m) {M : Nat} (hM : Pw (m + 2) M) (hvl : V v < M) : ∀ (i T : Nat) (u done : List Int), i + (m + 2) ≤ N → u.length = N → Dg u → Dg done → i + done.length + (m + 2) = N → V done = T → Inv W T (V v) (4294967296 ^ i) (V u) →
    Ev (fun k => nat_long.l1 k s v u ((m + 2 : Nat) : Int) (List.replicate i 0 ++ done) ((i : Int) - 1)) (D (W / V v), D (W % V v / 2 ^ s))
  | 0, T, u, done, hi, lu, hu, hdn, hdl, hT, hI => by
    obtain ⟨h1, h2, hlt⟩ := hI.end htop.pos
    have l1 : (D (V u)).length ≤ m + 2 := D_lt (hM.at (Nat.lt_trans hlt hvl))
    have l2 : (D (V u / 2 ^ s)).length ≤ m + 2 := D_lt (hM.at (Nat.lt_of_le_of_lt (Nat.div_le_self (V u) (2 ^ s)) (Nat.lt_trans hlt hvl)))
    have et : V (u.take (m + 2)) = V u := by rw [V_take hu (by omega), Nat.mod_eq_of_lt (hM.at (Nat.lt_trans hlt hvl))]
    rw [h1, h2]
    clear h1 h2 hlt hI
    refine ev_step ?_
    simp only [nat_long.l1]
    (repeat (first | (with_reducible refine ev_pos ?_ ?_; focus (first | omega | assumption | (simp; done) | (simp; omega))) | (with_reducible refine ev_neg ?_ ?_; focus (first | omega | assumption | (simp; done) | (simp; omega)))))
    refine Ev.bind (nat_trim_ev (l := List.replicate 0 0 ++ done) (by simpa using hdn) (by simp; omega)) ?_
    (repeat (first | (with_reducible refine ev_pos ?_ ?_; focus (first | omega | assumption | (simp; done) | (simp; omega))) | (with_reducible refine ev_neg ?_ ?_; focus (first | omega | assumption | (simp; done) | (simp; omega)))))
    refine Ev.bind (nat_trim_ev (hu.take _) (by simp; omega)) ?_
    rw [Int.toNat_natCast, et]
    refine Ev.bind (nat_down_ev (Dg_D _) (by omega) s (by omega)) ?_
    rw [V_D]
    refine Ev.bind (nat_trim_ev (Dg_D _) (by omega)) (ev_eq (Ev.now _) ?_)
    rw [V_D]; simp [hT]
  | i + 1, T, u, done, hi, lu, hu, hdn, hdl, hT, hI => by
    have hp : 0 < 4294967296 ^ i := Nat.pow_pos (Nat.zero_lt_succ _)
    have hI2 := hI.succ
    have hX := hI2.quo hp
    have hXM : V u / 4294967296 ^ i < M * 4294967296 := Nat.lt_trans hX (Nat.mul_lt_mul_of_pos_right hvl (Nat.zero_lt_succ _))
    obtain ⟨hpc, hdd⟩ := piece_V (i := i) (m := m) hu lu (by omega) (hM.up hXM)
    have hlen : ((u.take (i + (m + 3))).drop i).length = m + 3 := by rw [List.length_drop, List.length_take]; omega
    have hst := nat_step_ev (u := (u.take (i + (m + 3))).drop i) hv ((hu.take _).drop _) lv hlen (by omega) htop (by rw [hpc]; exact hX)
    rw [hpc] at hst
    have hsp := take_split_V hu (i := i) (by omega)
    have hLt : V (u.take i) < 4294967296 ^ i := V_take_lt hu (by omega)
    clear hI hp hpc
    generalize V u / 4294967296 ^ i = X at *
    have hR : X % V v < V v := Nat.mod_lt _ htop.pos
    have htB : X / V v < 4294967296 := by rw [Nat.div_lt_iff_lt_mul htop.pos, Nat.mul_comm]; exact hX
    have hdk : (Dk (m + 3) (X % V v)).length = m + 3 := Dk_len (hM.up (Nat.lt_of_le_of_lt (Nat.mod_le _ _) hXM))
    have hI3 := hI2.next hsp (div_mod_V X (V v)) hR hLt
    rw [← whole_V (u := u) (w := Dk (m + 3) (X % V v)) (by omega) (Dk_V _ _) hdd] at hI3
    clear hI2 hsp hLt hdd hX hXM hR
    have ih := long_l1 hv lv hm hN hs htop hM hvl i (X / V v + 4294967296 * T) (u.take i ++ Dk (m + 3) (X % V v) ++ u.drop (i + (m + 3))) (((X / V v : Nat) : Int) :: done) (by omega) (by simp [hdk]; omega) (((hu.take _).app (Dk_Dg _ _)).app (hu.drop _)) (Dg.cons nn (lt_cast htB) hdn) (by simp; omega) (by rw [V_cons, hT, Int.toNat_natCast]) hI3
    clear hI3 htB
    have e0 : ((i + 1 : Nat) : Int) - 1 = (i : Int) := by omega
    have e2 : wrap64 ((i : Int) - 1) = (i : Int) - 1 := w64m (by omega)
    have hs2 : (List.replicate (i + 1) (0 : Int) ++ done).set ((i : Int)).toNat ((X / V v : Nat) : Int) = List.replicate i 0 ++ ((X / V v : Nat) : Int) :: done := by
      rw [zeros_snoc, set_app (by simp)]; simp
    rw [e0]
    refine ev_step ?_
    simp only [nat_long.l1, w3 (i := i) (m := m) (by omega) (by omega), e2]
    clear e2 e0
    (repeat (first | (with_reducible refine ev_pos ?_ ?_; focus (first | omega | assumption | (simp; done) | (simp; omega))) | (with_reducible refine ev_neg ?_ ?_; focus (first | omega | assumption | (simp; done) | (simp; omega)))))
    simp only [Int.toNat_natCast]
    refine Ev.bind hst ?_
    (repeat (first | (with_reducible refine ev_pos ?_ ?_; focus (first | omega | assumption | (simp; done) | (simp; omega))) | (with_reducible refine ev_neg ?_ ?_; focus (first | omega | assumption | (simp; done) | (simp; omega)))))
    rw [Int.toNat_natCast] at hs2
    rw [hs2]
    exact ih
end Go.Proofs.YtclegbgmhimenaaDoor.Eng.K

/- The first layer's quotients. -/
set_option linter.unusedVariables false
set_option linter.unusedSimpArgs false
namespace Go.Proofs.YtclegbgmhimenaaDoor.Eng.K
open Go.RowKit

theorem up_len {b : List Int} {m d : Nat} (hb : Nm b) (lb : b.length = m + 2) (hd : (b.getD (m + 1) 0).toNat = d) : 0 < d ∧ d < 4294967296 ∧ 4294967296 ^ (m + 1) * d ≤ V b ∧ V b < 4294967296 ^ (m + 1) * (d + 1) := by
  obtain ⟨bl0, x2, x1, rfl, hl⟩ := split2 lb
  have e : bl0 ++ [x2, x1] = (bl0 ++ [x2]) ++ [x1] := by simp
  rw [e] at hb hd ⊢
  have hlen : (bl0 ++ [x2]).length = m + 1 := by simp [hl]
  have h1 := Nm_last hb
  have h2 := hb.dg x1 (by simp)
  have hv := V_lt hb.dg.left
  rw [hlen] at hv
  have hx : ((bl0 ++ [x2]) ++ [x1]).getD (m + 1) 0 = x1 := by rw [← hlen]; simp
  rw [hx] at hd
  rw [V_append, hlen]
  simp only [V_cons, V_nil, Nat.mul_zero, Nat.add_zero, hd]
  rw [Nat.mul_add, Nat.mul_one]
  generalize 4294967296 ^ (m + 1) = p at *
  refine ⟨by omega, by omega, by omega, by omega⟩
theorem norm_nat {Va Vb p d s B pi Ba : Nat} (hs : (d + 1) * 2 ^ s ≤ B) (h1 : p * d ≤ Vb) (h2 : Vb < p * (d + 1)) (hd : 0 < d) (hp : 0 < p) (ha : Va < Ba) (hB : Ba = p * pi) (hpi : 0 < pi) : Vb * 2 ^ s < p * B ∧ p ≤ Vb * 2 ^ s ∧ Va * 2 ^ s < Ba * B ∧ Va * 2 ^ s < Vb * 2 ^ s * pi := by
  have hz : 0 < 2 ^ s := pw_pos s
  have e1 : p ≤ Vb := Nat.le_trans (by have := Nat.mul_le_mul_left p hd; omega) h1
  have hsB : 2 ^ s ≤ B := Nat.le_trans (by have := Nat.mul_le_mul_right (2 ^ s) (show 1 ≤ d + 1 by omega); omega) hs
  generalize 2 ^ s = z at *
  refine ⟨?_, ?_, ?_, ?_⟩
  · refine Nat.lt_of_lt_of_le (Nat.mul_lt_mul_of_pos_right h2 hz) ?_
    rw [Nat.mul_assoc]; exact Nat.mul_le_mul_left _ hs
  · exact Nat.le_trans e1 (Nat.le_mul_of_pos_right _ hz)
  · exact Nat.lt_of_lt_of_le (Nat.mul_lt_mul_of_pos_right ha hz) (Nat.mul_le_mul_left _ hsB)
  · refine Nat.lt_of_lt_of_le (Nat.mul_lt_mul_of_pos_right ha hz) ?_
    rw [hB, Nat.mul_right_comm]
    exact Nat.mul_le_mul_right _ (Nat.mul_le_mul_right _ e1)
theorem nat_long_ev {a b : List Int} (ha : Nm a) (hb : Nm b) (la : a.length ≤ 4096) (lb : b.length ≤ a.length) (h2 : 2 ≤ b.length) : Ev (fun k => nat_long.f k a b) (D (V a / V b), D (V a % V b)) := by
  obtain ⟨m, lm⟩ : ∃ m, b.length = m + 2 := ⟨b.length - 2, by omega⟩
  obtain ⟨hd0, hdB, hlo, hhi⟩ := up_len hb lm rfl
  have hrd : rd b ((m + 1 : Nat) : Int) = b.getD (m + 1) 0 := rdn _ _
  have hdig := hb.dg.getD (m + 1)
  have hlz := lz_ev hdig
  generalize (b.getD (m + 1) 0).toNat = d at *
  have hbl : bl d ≤ 32 := bl_le_of_lt (by omega)
  have hblp : 0 < bl d := bl_pos (by omega)
  obtain ⟨s, hs⟩ : ∃ s, s = 32 - bl d := ⟨_, rfl⟩
  have hs32 : (d + 1) * 2 ^ s ≤ 4294967296 := by
    have h1 := Nat.mul_le_mul_right (2 ^ s) (Nat.succ_le_of_lt (lt_bl d))
    rw [hs, pw hbl] at h1
    rw [hs]; exact h1
  have hi : m + 1 + (a.length - (m + 1)) = a.length := by omega
  have hnn := norm_nat (Va := V a) (Vb := V b) (s := s) (B := 4294967296) (pi := 4294967296 ^ (a.length - (m + 1))) (Ba := 4294967296 ^ a.length) hs32 hlo hhi hd0 (Nat.pow_pos (Nat.zero_lt_succ _)) (V_lt ha.dg) (by rw [← Nat.pow_add, hi]) (Nat.pow_pos (Nat.zero_lt_succ _))
  obtain ⟨n1, n2, n3, n4⟩ := hnn
  rw [← pow_s] at n1 n3
  have hup1 := nat_up_ev hb.dg (by omega) s (by omega)
  have hup2 := nat_up_ev ha.dg (by omega) s (by omega)
  have lY : (D (V b * 2 ^ s)).length = m + 2 := by
    have h3 := D_lt n1
    rcases Nat.lt_or_ge (D (V b * 2 ^ s)).length (m + 2) with h4 | h4
    · exfalso
      have h5 := V_bd (Dg_D (V b * 2 ^ s)) (n := m + 1) (by omega)
      rw [V_D] at h5
      exact Nat.not_lt.2 n2 h5
    · omega
  have lW : (D (V a * 2 ^ s)).length ≤ a.length + 1 := D_lt n3
  have hT : Top (D (V b * 2 ^ s)) m := by unfold Top; rw [V_D]; exact n2
  have e1 : V a * 2 ^ s / (V b * 2 ^ s) = V a / V b := Nat.mul_div_mul_right _ _ (pw_pos s)
  have e2 : V a * 2 ^ s % (V b * 2 ^ s) / 2 ^ s = V a % V b := by rw [Nat.mul_mod_mul_right, Nat.mul_div_cancel _ (pw_pos s)]
  have hu : V (D (V a * 2 ^ s) ++ List.replicate (a.length + 1 - (D (V a * 2 ^ s)).length) 0) = V a * 2 ^ s := Dk_V (a.length + 1) (V a * 2 ^ s)
  have main := long_l1 (v := D (V b * 2 ^ s)) (m := m) (N := a.length + 1) (s := s) (W := V a * 2 ^ s) (Dg_D _) lY (by omega) (by omega) (by omega) hT (M := 4294967296 ^ (m + 2)) rfl (by rw [V_D]; exact n1) (a.length - (m + 1)) 0 (D (V a * 2 ^ s) ++ List.replicate (a.length + 1 - (D (V a * 2 ^ s)).length) 0) [] (by omega) (by rw [List.length_append, List.length_replicate]; omega) ((Dg_D _).app (Dg.zeros _)) Dg.nil (by rw [List.length_nil]; omega) rfl ⟨by rw [hu]; omega, by rw [hu, V_D]; exact n4⟩
  rw [V_D, e1, e2, List.append_nil] at main
  clear n1 n2 n3 n4 hlo hhi hT e1 e2 hu hs32
  unfold nat_long.f
  have e3 : wrap64 ((b.length : Int) - 1) = ((m + 1 : Nat) : Int) := by unfold wrap64; omega
  simp only [e3, hrd]
  clear e3
  (repeat (first | (with_reducible refine ev_pos ?_ ?_; focus (first | omega | assumption | (simp; done) | (simp; omega))) | (with_reducible refine ev_neg ?_ ?_; focus (first | omega | assumption | (simp; done) | (simp; omega)))))
  refine Ev.bind hlz ?_
  rw [← hs]
  refine Ev.bind hup1 (Ev.bind hup2 ?_)
  refine long_l0 (s : Int) (by omega) (a.length + 1 - (D (V a * 2 ^ s)).length) _ (by omega) (by omega) ?_
  have e4 : a.length + 1 - (m + 2) = a.length - (m + 1) := by omega
  rw [lY, e4]
  exact main
end Go.Proofs.YtclegbgmhimenaaDoor.Eng.K

/- The first layer's QuoRem. -/
set_option linter.unusedVariables false
set_option linter.unusedSimpArgs false
namespace Go.Proofs.YtclegbgmhimenaaDoor.Eng.K
open Go.RowKit

def quoR (m n : Nat) : List Int × List Int × Int := if n = 0 then ([], [], 11) else (D (m / n), D (m % n), 0)
theorem cmpN_lt {m n : Nat} : (cmpN m n < 0) ↔ m < n := by
  have := cmpN_ge (m := m) (n := n)
  constructor <;> intro h <;> omega
theorem Nm_len_le {a b : List Int} (ha : Nm a) (hb : Nm b) (h : V b ≤ V a) : b.length ≤ a.length := by
  have h1 := D_lt (Nat.lt_of_le_of_lt h (V_lt ha.dg))
  rwa [hb] at h1
theorem nat_QuoRem_ev {a b : List Int} (ha : Nm a) (hb : Nm b) (la : a.length ≤ 4096) (lb : b.length ≤ 4096) : Ev (fun k => nat_QuoRem.f k a b) (quoR (V a) (V b)) := by
  have hall := all2_ev ha.dg hb.dg (by omega) (by omega)
  rw [may_iff.2 ⟨la, ha⟩, may_iff.2 ⟨lb, hb⟩] at hall
  unfold nat_QuoRem.f quoR
  refine Ev.bind hall ?_
  (repeat (first | (with_reducible refine ev_pos ?_ ?_; focus (first | omega | assumption | (simp; done) | (simp; omega))) | (with_reducible refine ev_neg ?_ ?_; focus (first | omega | assumption | (simp; done) | (simp; omega)))))
  by_cases h0 : b = []
  · subst h0
    (repeat (first | (with_reducible refine ev_pos ?_ ?_; focus (first | omega | assumption | (simp; done) | (simp; omega))) | (with_reducible refine ev_neg ?_ ?_; focus (first | omega | assumption | (simp; done) | (simp; omega)))))
    exact ev_eq (Ev.now _) (by simp)
  have hb0 := V_pos hb h0
  have hlp : 0 < b.length := List.length_pos_iff.2 h0
  rw [if_neg hb0]
  (repeat (first | (with_reducible refine ev_pos ?_ ?_; focus (first | omega | assumption | (simp; done) | (simp; omega))) | (with_reducible refine ev_neg ?_ ?_; focus (first | omega | assumption | (simp; done) | (simp; omega)))))
  refine Ev.bind (nat_cmp_ev ha hb (by omega)) ?_
  (repeat (first | (with_reducible refine ev_pos ?_ ?_; focus (first | omega | assumption | (simp; done) | (simp; omega))) | (with_reducible refine ev_neg ?_ ?_; focus (first | omega | assumption | (simp; done) | (simp; omega)))))
  by_cases hc : V a < V b
  · refine ev_pos (cmpN_lt.2 hc) ?_
    (repeat (first | (with_reducible refine ev_pos ?_ ?_; focus (first | omega | assumption | (simp; done) | (simp; omega))) | (with_reducible refine ev_neg ?_ ?_; focus (first | omega | assumption | (simp; done) | (simp; omega)))))
    refine ev_eq (Ev.now _) ?_
    rw [Nat.div_eq_of_lt hc, Nat.mod_eq_of_lt hc, D_zero, ha]
  refine ev_neg (fun h => hc (cmpN_lt.1 h)) ?_
  by_cases h1 : b.length = 1
  · obtain ⟨d, rfl⟩ := List.length_eq_one_iff.1 h1
    have hd := hb.dg.head
    have hdne : d ≠ 0 := by simp at hb0; omega
    have h4 : rd [d] 0 = d := by simp [rd]
    have h5 : V [d] = d.toNat := by simp
    rw [h4, h5]
    (repeat (first | (with_reducible refine ev_pos ?_ ?_; focus (first | omega | assumption | (simp; done) | (simp; omega))) | (with_reducible refine ev_neg ?_ ?_; focus (first | omega | assumption | (simp; done) | (simp; omega)))))
    refine Ev.bind (nat_small_ev ha.dg (by omega) (d := d) (by omega)) ?_
    (repeat (first | (with_reducible refine ev_pos ?_ ?_; focus (first | omega | assumption | (simp; done) | (simp; omega))) | (with_reducible refine ev_neg ?_ ?_; focus (first | omega | assumption | (simp; done) | (simp; omega)))))
    have hm : V a % d.toNat < d.toNat := Nat.mod_lt _ (by omega)
    refine Ev.bind (nat_trim_ev (Dg.cons nn (lt_cast (by omega)) Dg.nil) (by simp)) ?_
    (repeat (first | (with_reducible refine ev_pos ?_ ?_; focus (first | omega | assumption | (simp; done) | (simp; omega))) | (with_reducible refine ev_neg ?_ ?_; focus (first | omega | assumption | (simp; done) | (simp; omega)))))
    refine ev_eq (Ev.now _) ?_
    simp only [V_cons, V_nil, Int.toNat_natCast, Nat.mul_zero, Nat.add_zero]
  · (repeat (first | (with_reducible refine ev_pos ?_ ?_; focus (first | omega | assumption | (simp; done) | (simp; omega))) | (with_reducible refine ev_neg ?_ ?_; focus (first | omega | assumption | (simp; done) | (simp; omega)))))
    refine Ev.bind (nat_long_ev ha hb la (Nm_len_le ha hb (by omega)) (by omega)) ?_
    (repeat (first | (with_reducible refine ev_pos ?_ ?_; focus (first | omega | assumption | (simp; done) | (simp; omega))) | (with_reducible refine ev_neg ?_ ?_; focus (first | omega | assumption | (simp; done) | (simp; omega)))))
    refine Ev.now _
end Go.Proofs.YtclegbgmhimenaaDoor.Eng.K

/- The place of the lowest bit: what it is; the program's way to it, and the reference's. -/
set_option linter.unusedVariables false
set_option linter.unusedSimpArgs false
namespace Go.Proofs.YtclegbgmhimenaaDoor.Eng.K
open Go.RowKit

theorem mx_n (a b : Nat) : mx (a : Int) (b : Int) = ((max a b : Nat) : Int) := by unfold mx; split <;> omega
theorem mx_eq (a b : Int) : mx a b = max a b := by unfold mx; split <;> omega
theorem mn_eq (a b : Int) : mn a b = min a b := by unfold mn; split <;> omega
theorem nat_Len_ev {l : List Int} (h : Nm l) (hb : l.length ≤ 4096) : Ev (fun k => nat_Len.f k l) ((bl (V l) : Nat) : Int) := by
  unfold nat_Len.f
  refine ev_bind (nat_May_eq h.dg (by omega)) ?_
  rw [may_iff.2 ⟨hb, h⟩]
  (repeat (first | (with_reducible refine ev_pos ?_ ?_; focus (first | omega | assumption | (simp; done) | (simp; omega))) | (with_reducible refine ev_neg ?_ ?_; focus (first | omega | assumption | (simp; done) | (simp; omega)))))
  by_cases c : l.length = 0
  · have : l = [] := List.eq_nil_of_length_eq_zero c
    subst this
    (repeat (first | (with_reducible refine ev_pos ?_ ?_; focus (first | omega | assumption | (simp; done) | (simp; omega))) | (with_reducible refine ev_neg ?_ ?_; focus (first | omega | assumption | (simp; done) | (simp; omega)))))
    exact ev_eq (Ev.now _) rfl
  · have e : wrap64 ((l.length : Int) - 1) = ((l.length - 1 : Nat) : Int) := by unfold wrap64; omega
    rw [e]
    clear e
    have hd := h.dg.getD (l.length - 1)
    have hne : l ≠ [] := fun e => c (by rw [e]; rfl)
    rw [rdn]
    (repeat (first | (with_reducible refine ev_pos ?_ ?_; focus (first | omega | assumption | (simp; done) | (simp; omega))) | (with_reducible refine ev_neg ?_ ?_; focus (first | omega | assumption | (simp; done) | (simp; omega)))))
    refine Ev.bind (len32_ev hd) (ev_eq (Ev.now _) ?_)
    rw [bl_V h hne]
    generalize l.getD (l.length - 1) 0 = x at hd
    have hbn : bl x.toNat ≤ 32 := bl_le_of_lt (by omega)
    unfold wrap64
    omega

/-- The lowest bit's place: n is 2 to it times an odd number. -/
def IsLow (n b : Nat) : Prop := ∃ m, n = 2 ^ b * (2 * m + 1)
theorem IsLow.ne {n b : Nat} (h : IsLow n b) : n ≠ 0 := by
  obtain ⟨m, h⟩ := h
  have := Nat.mul_pos (pw_pos b) (show 0 < 2 * m + 1 by omega)
  omega
theorem IsLow.le {n b : Nat} (h : IsLow n b) : 2 ^ b ≤ n := by
  obtain ⟨m, h⟩ := h
  rw [h]; exact Nat.le_mul_of_pos_right _ (by omega)
theorem IsLow.mod {n b k : Nat} (h : IsLow n b) : n % 2 ^ k = 0 ↔ k ≤ b := by
  obtain ⟨m, h⟩ := h
  constructor
  · intro hk
    rcases Nat.lt_or_ge b k with h1 | h1
    · exfalso
      obtain ⟨d, rfl⟩ := Nat.exists_eq_add_of_lt h1
      have hd : 2 ^ (b + d + 1) ∣ 2 ^ b * (2 * m + 1) := by rw [← h]; exact Nat.dvd_of_mod_eq_zero hk
      rw [Nat.add_assoc, Nat.pow_add] at hd
      have h2 := Nat.dvd_of_mul_dvd_mul_left (pw_pos b) hd
      rw [Nat.pow_succ] at h2
      have h3 : 2 ∣ 2 * m + 1 := Nat.dvd_trans (Nat.dvd_mul_left 2 _) h2
      omega
    · exact h1
  · intro hk
    obtain ⟨d, rfl⟩ := Nat.exists_eq_add_of_le hk
    rw [h, Nat.pow_add, Nat.mul_assoc]
    exact Nat.mul_mod_right _ _
theorem IsLow.unique {n b c : Nat} (h : IsLow n b) (k : IsLow n c) : b = c := by
  have h1 := (h.mod (k := b)).2 (Nat.le_refl _)
  have h2 := (k.mod (k := c)).2 (Nat.le_refl _)
  have h3 := k.mod.1 h1
  have h4 := h.mod.1 h2
  omega
theorem isLow_up {n b k : Nat} (h : IsLow n b) : IsLow (n * 2 ^ k) (b + k) := by
  obtain ⟨m, h⟩ := h
  exact ⟨m, by rw [h, Nat.pow_add, Nat.mul_assoc, Nat.mul_comm (2 * m + 1), ← Nat.mul_assoc]⟩
theorem isLow_ctz {x : Nat} (h : x ≠ 0) (hx : x < 4294967296) : IsLow x (Lib.ctz 32 x) ∧ Lib.ctz 32 x < 32 := by
  obtain ⟨m, h1, h2⟩ := Lib.ctzFrom_spec 32 x (by omega) hx
  unfold Lib.ctz
  rw [if_neg h]
  exact ⟨⟨m, h1⟩, h2⟩
theorem isLow_add {x r b : Nat} (h : IsLow x b) (hb : b < 32) : IsLow (x + 4294967296 * r) b := by
  obtain ⟨m, h⟩ := h
  obtain ⟨d, hd⟩ : ∃ d, 32 = b + (d + 1) := ⟨31 - b, by omega⟩
  have e : 4294967296 = 2 ^ b * (2 ^ d * 2) := by
    rw [← Nat.pow_succ, ← Nat.pow_add, Nat.succ_eq_add_one, ← hd]
  have e2 : 2 ^ b * (2 ^ d * 2) * r = 2 ^ b * (2 * (2 ^ d * r)) := by
    rw [Nat.mul_assoc, Nat.mul_comm (2 ^ d) 2, Nat.mul_assoc]
  refine ⟨m + 2 ^ d * r, ?_⟩
  rw [h, e, e2, ← Nat.mul_add]
  congr 1
  omega
def lw (n : Nat) : Nat := if n = 0 then 0 else Lib.ctzFrom n n
theorem lw_is {n : Nat} (h : n ≠ 0) : IsLow n (lw n) := by
  obtain ⟨m, h1, _⟩ := Lib.ctzFrom_spec n n (by omega) Nat.lt_two_pow_self
  unfold lw
  rw [if_neg h]
  exact ⟨m, h1⟩
theorem lw_eq {n b : Nat} (h : IsLow n b) : lw n = b := (lw_is h.ne).unique h
theorem tz_eq {x : Int} (h : 0 ≤ x ∧ x < 4294967296) : bits_TrailingZeros32.f x = some ((Lib.ctz 32 x.toNat : Nat) : Int) := by
  unfold bits_TrailingZeros32.f
  rw [if_pos h]
theorem w32a {i b : Nat} (hi : i < 1000000) (hb : b < 32) : wrap64 (wrap64 (32 * (i : Int)) + (b : Int)) = ((b + 32 * i : Nat) : Int) := by unfold wrap64; omega
theorem nlow_l0 (A : List Int) (hA : Dg A) (hl : A.length < 1000000) : ∀ (a pa : List Int), A = pa ++ a → V pa = 0 → Ev (fun k => nat_Low.l0 k A A.length pa.length) ((lw (V A) : Nat) : Int)
  | [], pa, he, hv => by
    have hlen : A.length = pa.length := by rw [he]; simp
    refine ev_step ?_
    simp only [nat_Low.l0]
    (repeat (first | (with_reducible refine ev_pos ?_ ?_; focus (first | omega | assumption | (simp; done) | (simp; omega))) | (with_reducible refine ev_neg ?_ ?_; focus (first | omega | assumption | (simp; done) | (simp; omega)))))
    refine ev_eq (Ev.now _) ?_
    have : V A = 0 := by rw [he, List.append_nil, hv]
    rw [this]; rfl
  | d :: a, pa, he, hv => by
    have hlen : A.length = pa.length + 1 + a.length := by rw [he]; simp; omega
    have hdd : 0 ≤ d ∧ d < 4294967296 := by rw [he] at hA; exact hA.right.head
    have h1 : rd A (pa.length : Int) = d := by rw [he]; exact rd_app rfl
    refine ev_step ?_
    simp only [nat_Low.l0, h1, w64s (n := pa.length) (by omega)]
    (repeat (first | (with_reducible refine ev_pos ?_ ?_; focus (first | omega | assumption | (simp; done) | (simp; omega))) | (with_reducible refine ev_neg ?_ ?_; focus (first | omega | assumption | (simp; done) | (simp; omega)))))
    by_cases h0 : d = 0
    · refine ev_neg (fun h => h h0) ?_
      have := nlow_l0 A hA hl a (pa ++ [0]) (by rw [he, h0]; simp) (by rw [V_snoc_zero, hv])
      rwa [@List.length_append _ pa, List.length_singleton] at this
    · refine ev_pos h0 ?_
      refine ev_bind (tz_eq hdd) ?_
      (repeat (first | (with_reducible refine ev_pos ?_ ?_; focus (first | omega | assumption | (simp; done) | (simp; omega))) | (with_reducible refine ev_neg ?_ ?_; focus (first | omega | assumption | (simp; done) | (simp; omega)))))
      refine ev_eq (Ev.now _) ?_
      have hz := isLow_ctz (x := d.toNat) (by omega) (by omega)
      have e : V A = (d.toNat + 4294967296 * V a) * 2 ^ (32 * pa.length) := by
        rw [he, V_append, hv, V_cons, Nat.zero_add, Nat.mul_comm, Nat.pow_mul]
      rw [e, lw_eq (isLow_up (isLow_add hz.1 hz.2)), w32a (by omega) hz.2]
theorem nat_Low_ev {a : List Int} (ha : Nm a) (la : a.length ≤ 4096) : Ev (fun k => nat_Low.f k a) ((lw (V a) : Nat) : Int) := by
  unfold nat_Low.f
  refine ev_bind (nat_May_eq ha.dg (by omega)) ?_
  rw [may_iff.2 ⟨la, ha⟩]
  (repeat (first | (with_reducible refine ev_pos ?_ ?_; focus (first | omega | assumption | (simp; done) | (simp; omega))) | (with_reducible refine ev_neg ?_ ?_; focus (first | omega | assumption | (simp; done) | (simp; omega)))))
  exact nlow_l0 a ha.dg (by omega) a [] rfl rfl
theorem V_digit {l : List Int} (h : Dg l) (q : Nat) : V l / 4294967296 ^ q % 4294967296 = (l.getD q 0).toNat := by
  have h1 := V_headtail (l.drop q)
  rw [drop_headD, V_drop h] at h1
  have h2 := h.getD q
  rw [h1, Nat.add_mul_mod_self_left, Nat.mod_eq_of_lt (by omega)]
theorem lw_mod {n k : Nat} (h : n ≠ 0) : k > lw n ↔ n % 2 ^ k ≠ 0 := by
  have := (lw_is h).mod (k := k)
  constructor
  · intro h1 h2; have := this.1 h2; omega
  · intro h1; rcases Nat.lt_or_ge (lw n) k with h2 | h2
    · exact h2
    · exact absurd (this.2 h2) h1
def shiftR (v : Nat) (n : Int) : List Int × Bool × Int :=
  if v = 0 then ([], false, 0) else if n < -131072 then ([], true, 0) else if n < 0 then (D (v / 2 ^ (-n).toNat), decide (v % 2 ^ (-n).toNat ≠ 0), 0) else if n > 131072 - (bl v : Int) then ([], false, 3) else (D (v * 2 ^ n.toNat), false, 0)
theorem nat_Shift_ev {a : List Int} (ha : Nm a) (la : a.length ≤ 4096) (n : Int) : Ev (fun k => nat_Shift.f k a n) (shiftR (V a) n) := by
  unfold nat_Shift.f shiftR
  refine ev_bind (nat_May_eq ha.dg (by omega)) ?_
  rw [may_iff.2 ⟨la, ha⟩]
  (repeat (first | (with_reducible refine ev_pos ?_ ?_; focus (first | omega | assumption | (simp; done) | (simp; omega))) | (with_reducible refine ev_neg ?_ ?_; focus (first | omega | assumption | (simp; done) | (simp; omega)))))
  by_cases c : a = []
  · subst c
    (repeat (first | (with_reducible refine ev_pos ?_ ?_; focus (first | omega | assumption | (simp; done) | (simp; omega))) | (with_reducible refine ev_neg ?_ ?_; focus (first | omega | assumption | (simp; done) | (simp; omega)))))
    exact ev_eq (Ev.now _) (by simp)
  have h0 : V a ≠ 0 := fun h => c ((V_eq_zero ha).1 h)
  have hl : a.length ≠ 0 := fun h => c (List.eq_nil_of_length_eq_zero h)
  have hbl := bl_list ha.dg
  rw [if_neg h0]
  (repeat (first | (with_reducible refine ev_pos ?_ ?_; focus (first | omega | assumption | (simp; done) | (simp; omega))) | (with_reducible refine ev_neg ?_ ?_; focus (first | omega | assumption | (simp; done) | (simp; omega)))))
  by_cases h1 : n < -131072
  · rw [if_pos h1]; exact ev_pos h1 (Ev.now _)
  rw [if_neg h1]
  refine ev_neg h1 ?_
  by_cases h2 : n < 0
  · rw [if_pos h2]
    have e : wrap64 (-n) = (((-n).toNat : Nat) : Int) := by unfold wrap64; omega
    rw [e]
    clear e
    have hm : (-n).toNat ≤ 131072 := by omega
    generalize (-n).toNat = m at *
    refine ev_pos h2 ?_
    refine Ev.bind (nat_down_ev ha.dg (by omega) m (by omega)) ?_
    (repeat (first | (with_reducible refine ev_pos ?_ ?_; focus (first | omega | assumption | (simp; done) | (simp; omega))) | (with_reducible refine ev_neg ?_ ?_; focus (first | omega | assumption | (simp; done) | (simp; omega)))))
    refine Ev.bind (nat_Low_ev ha la) ?_
    (repeat (first | (with_reducible refine ev_pos ?_ ?_; focus (first | omega | assumption | (simp; done) | (simp; omega))) | (with_reducible refine ev_neg ?_ ?_; focus (first | omega | assumption | (simp; done) | (simp; omega)))))
    refine ev_eq (Ev.now _) ?_
    congr 2
    exact decide_eq_decide.2 (by rw [← lw_mod h0]; omega)
  · rw [if_neg h2]
    have e : wrap64 (131072 - ((bl (V a) : Nat) : Int)) = 131072 - ((bl (V a) : Nat) : Int) := by unfold wrap64; omega
    refine ev_neg h2 ?_
    refine Ev.bind (nat_Len_ev ha la) ?_
    (repeat (first | (with_reducible refine ev_pos ?_ ?_; focus (first | omega | assumption | (simp; done) | (simp; omega))) | (with_reducible refine ev_neg ?_ ?_; focus (first | omega | assumption | (simp; done) | (simp; omega)))))
    rw [e]
    clear e
    by_cases h3 : n > 131072 - ((bl (V a) : Nat) : Int)
    · rw [if_pos h3]; exact ev_pos h3 (Ev.now _)
    · rw [if_neg h3]
      obtain ⟨m, rfl⟩ := Int.eq_ofNat_of_zero_le (show 0 ≤ n by omega)
      refine ev_neg h3 ?_
      refine Ev.bind (nat_up_ev ha.dg (by omega) m (by omega)) ?_
      (repeat (first | (with_reducible refine ev_pos ?_ ?_; focus (first | omega | assumption | (simp; done) | (simp; omega))) | (with_reducible refine ev_neg ?_ ?_; focus (first | omega | assumption | (simp; done) | (simp; omega)))))
      refine ev_eq (Ev.now _) ?_
      rw [Int.toNat_natCast]
theorem len_bl {x k : Nat} (h : bl x ≤ 32 * k) : (D x).length ≤ k := by
  refine D_lt ?_
  have e : 4294967296 ^ k = 2 ^ (32 * k) := by rw [Nat.pow_mul]
  rw [e]
  exact Nat.lt_of_lt_of_le (lt_bl x) (Nat.pow_le_pow_right (by omega) h)
theorem bl_up_le (v m : Nat) : bl (v * 2 ^ m) ≤ bl v + m := by
  refine bl_le_of_lt ?_
  rw [Nat.pow_add]
  exact Nat.mul_lt_mul_of_pos_right (lt_bl v) (pw_pos m)
theorem bl_up {v : Nat} (h : v ≠ 0) (m : Nat) : bl (v * 2 ^ m) = bl v + m := by
  rw [bl_shift (n := v * 2 ^ m) (k := m) (Nat.le_mul_of_pos_left _ (by omega)), Nat.mul_div_cancel _ (pw_pos m), Nat.add_comm]
theorem bl_down (v m : Nat) : bl (v / 2 ^ m) = bl v - m := by
  rcases Nat.lt_or_ge v (2 ^ m) with h | h
  · rw [Nat.div_eq_of_lt h, bl_zero]
    have := bl_le_of_lt h
    omega
  · rw [bl_shift h]; omega
theorem shiftR_up {v m : Nat} (h : bl v + m ≤ 131072) : shiftR v (m : Int) = (D (v * 2 ^ m), false, 0) := by
  unfold shiftR
  by_cases hv : v = 0
  · rw [if_pos hv, hv, Nat.zero_mul, D_zero]
  · rw [if_neg hv, if_neg (by omega), if_neg (by omega), if_neg (by omega), Int.toNat_natCast]
theorem shiftR_down {v m : Nat} (h : bl v ≤ 131072) (hm : m ≤ 131072) : shiftR v (-(m : Int)) = (D (v / 2 ^ m), decide (v % 2 ^ m ≠ 0), 0) := by
  by_cases hv : v = 0
  · unfold shiftR
    rw [if_pos hv, hv, Nat.zero_div, Nat.zero_mod, D_zero]; rfl
  rcases Nat.eq_zero_or_pos m with h0 | h0
  · subst h0
    have e := shiftR_up (v := v) (m := 0) (by omega)
    rw [Nat.pow_zero, Nat.mul_one] at e
    rw [Nat.pow_zero, Nat.div_one, Nat.mod_one]
    exact e
  · unfold shiftR
    have e : (-(-(m : Int))).toNat = m := by omega
    rw [if_neg hv, if_neg (by omega), if_pos (by omega), e]
end Go.Proofs.YtclegbgmhimenaaDoor.Eng.K

/- Dyadic numbers: whole numbers times a power of two, in their one form; the reference's and the program's way to that form. -/
set_option linter.unusedVariables false
set_option linter.unusedSimpArgs false
namespace Go.Proofs.YtclegbgmhimenaaDoor.Eng.K
open Go.RowKit

/-- A size with a sign. -/
def sv (s : Bool) (n : Nat) : Int := if s = true then -(n : Int) else n
theorem sv_abs (s : Bool) (n : Nat) : (sv s n).natAbs = n := by unfold sv; split <;> simp
theorem sv_eq_zero {s : Bool} {n : Nat} : sv s n = 0 ↔ n = 0 := by unfold sv; split <;> omega
theorem sv_neg {s : Bool} {n : Nat} (h : n ≠ 0) : decide (sv s n < 0) = s := by
  unfold sv
  cases s
  · exact decide_eq_false (by simp)
  · exact decide_eq_true (by simp; omega)
theorem sv_zero (s : Bool) : sv s 0 = 0 := by unfold sv; split <;> rfl
/-- z times 2^e, in the one form: sign, digits (an odd number), exponent. -/
def mk (z e : Int) : Bool × List Int × Int := if z = 0 then (false, [], 0) else (decide (z < 0), D (z.natAbs / 2 ^ lw z.natAbs), e + (lw z.natAbs : Nat))
theorem mk_zero (e : Int) : mk 0 e = (false, [], 0) := rfl
theorem lw_up {n : Nat} (h : n ≠ 0) (k : Nat) : lw (n * 2 ^ k) = lw n + k := lw_eq (isLow_up (lw_is h))
theorem mk_up (z e : Int) (k : Nat) : mk (z * 2 ^ k) e = mk z (e + k) := by
  unfold mk
  by_cases h : z = 0
  · subst h; simp
  · have hp : (0 : Int) < 2 ^ k := Int.pow_pos (by omega)
    have h1 : z * 2 ^ k ≠ 0 := Int.mul_ne_zero h (by omega)
    have hn : z.natAbs ≠ 0 := by omega
    have h2 : (z * 2 ^ k).natAbs = z.natAbs * 2 ^ k := by rw [Int.natAbs_mul, Int.natAbs_pow]; rfl
    have h3 : decide (z * 2 ^ k < 0) = decide (z < 0) := decide_eq_decide.2 (by
      constructor
      · intro h4
        rcases (show z < 0 ∨ 0 ≤ z by omega) with h5 | h5
        · exact h5
        · have := Int.mul_nonneg h5 (Int.le_of_lt hp); omega
      · intro h4; exact Int.mul_neg_of_neg_of_pos h4 hp)
    rw [if_neg h, if_neg h1, h2, h3, lw_up hn]
    have h4 : z.natAbs * 2 ^ k / 2 ^ (lw z.natAbs + k) = z.natAbs / 2 ^ lw z.natAbs := by
      rw [Nat.pow_add]; exact Nat.mul_div_mul_right _ _ (pw_pos k)
    rw [h4]
    congr 2
    omega
/-- In its one form? -/
structure Dy (s : Bool) (l : List Int) (e : Int) : Prop where
  nm : Nm l
  none : l = [] → s = false ∧ e = 0
  odd : l ≠ [] → V l % 2 = 1
theorem lw_odd {n : Nat} (h : n % 2 = 1) : lw n = 0 := lw_eq ⟨n / 2, by rw [Nat.pow_zero, Nat.one_mul]; omega⟩
theorem Dy_mk (z e : Int) : Dy (mk z e).1 (mk z e).2.1 (mk z e).2.2 := by
  unfold mk
  by_cases h : z = 0
  · rw [if_pos h]; exact ⟨Nm_nil, fun _ => ⟨rfl, rfl⟩, fun h => absurd rfl h⟩
  · rw [if_neg h]
    obtain ⟨m, hm⟩ := lw_is (n := z.natAbs) (by omega)
    have h1 : z.natAbs / 2 ^ lw z.natAbs = 2 * m + 1 := by
      have : z.natAbs / 2 ^ lw z.natAbs = 2 ^ lw z.natAbs * (2 * m + 1) / 2 ^ lw z.natAbs := by rw [← hm]
      rw [this, Nat.mul_div_cancel_left _ (pw_pos _)]
    have h2 : D (z.natAbs / 2 ^ lw z.natAbs) ≠ [] := by rw [h1, D_pos (by omega)]; simp
    exact ⟨Nm_D _, fun h => absurd h h2, fun _ => by show V (D _) % 2 = 1; rw [V_D, h1]; omega⟩
theorem mk_sv (s : Bool) {n : Nat} (h : n ≠ 0) (e : Int) : mk (sv s n) e = (s, D (n / 2 ^ lw n), e + (lw n : Nat)) := by
  unfold mk
  rw [if_neg (fun h2 => h (sv_eq_zero.1 h2)), sv_abs, sv_neg h]
theorem lw_lt {n : Nat} (h : n ≠ 0) : lw n < bl n := by
  have h1 := (lw_is h).le
  rcases Nat.lt_or_ge (lw n) (bl n) with h2 | h2
  · exact h2
  · have h3 := lt_bl n
    have h4 : 2 ^ bl n ≤ 2 ^ lw n := Nat.pow_le_pow_right (by omega) h2
    omega
theorem nil_len {l : List Int} : (l.length : Int) = 0 ↔ l = [] := by
  constructor
  · intro h; exact List.eq_nil_of_length_eq_zero (by omega)
  · intro h; rw [h]; rfl
theorem wexp {e : Int} {b : Nat} (h1 : -1000000000000000 ≤ e) (h2 : e ≤ 1000000000000000) (hb : b < 100000000000) : wrap64 (e + (b : Int)) = e + (b : Int) := by unfold wrap64; omega
/-- What Make answers: the one form, or that the exponent is too great. -/
def makeR (s : Bool) (n : Nat) (e : Int) : Bool × List Int × Int × Int :=
  if n = 0 then (false, [], 0, 0) else if e > 16777216 - (lw n : Nat) then (false, [], 0, 20) else if e < -16777216 - (lw n : Nat) then (false, [], 0, 20) else ((mk (sv s n) e).1, (mk (sv s n) e).2.1, (mk (sv s n) e).2.2, 0)
theorem dyad_Make_ev (s : Bool) {l : List Int} (hl : Nm l) (ll : l.length ≤ 4096) (e : Int) : Ev (fun k => dyad_Make.f k s l e) (makeR s (V l) e) := by
  unfold dyad_Make.f makeR
  refine ev_bind (nat_May_eq hl.dg (by omega)) ?_
  rw [may_iff.2 ⟨ll, hl⟩]
  (repeat (first | (with_reducible refine ev_pos ?_ ?_; focus (first | omega | assumption | (simp; done) | (simp; omega))) | (with_reducible refine ev_neg ?_ ?_; focus (first | omega | assumption | (simp; done) | (simp; omega)))))
  by_cases c : l = []
  · subst c
    (repeat (first | (with_reducible refine ev_pos ?_ ?_; focus (first | omega | assumption | (simp; done) | (simp; omega))) | (with_reducible refine ev_neg ?_ ?_; focus (first | omega | assumption | (simp; done) | (simp; omega)))))
    exact ev_eq (Ev.now _) (by rw [V_nil, if_pos rfl])
  · have h0 : V l ≠ 0 := fun h => c ((V_eq_zero hl).1 h)
    have hb := bl_list hl.dg
    have hw := lw_lt h0
    rw [if_neg h0]
    refine ev_neg (fun h => c (nil_len.1 h)) ?_
    refine Ev.bind (nat_Low_ev hl ll) ?_
    (repeat (first | (with_reducible refine ev_pos ?_ ?_; focus (first | omega | assumption | (simp; done) | (simp; omega))) | (with_reducible refine ev_neg ?_ ?_; focus (first | omega | assumption | (simp; done) | (simp; omega)))))
    have e1 : wrap64 (16777216 - ((lw (V l) : Nat) : Int)) = 16777216 - ((lw (V l) : Nat) : Int) := by unfold wrap64; omega
    have e2 : wrap64 (-16777216 - ((lw (V l) : Nat) : Int)) = -16777216 - ((lw (V l) : Nat) : Int) := by unfold wrap64; omega
    have e3 : wrap64 (-((lw (V l) : Nat) : Int)) = -((lw (V l) : Nat) : Int) := by unfold wrap64; omega
    rw [e1, e2, e3]
    clear e1 e2 e3
    by_cases h1 : e > 16777216 - ((lw (V l) : Nat) : Int)
    · rw [if_pos h1]; exact ev_pos h1 (Ev.now _)
    rw [if_neg h1]
    refine ev_neg h1 ?_
    by_cases h2 : e < -16777216 - ((lw (V l) : Nat) : Int)
    · rw [if_pos h2]; exact ev_pos h2 (Ev.now _)
    rw [if_neg h2]
    have hs := nat_Shift_ev hl ll (-((lw (V l) : Nat) : Int))
    rw [shiftR_down (by omega) (by omega)] at hs
    refine ev_neg h2 ?_
    refine Ev.bind hs ?_
    (repeat (first | (with_reducible refine ev_pos ?_ ?_; focus (first | omega | assumption | (simp; done) | (simp; omega))) | (with_reducible refine ev_neg ?_ ?_; focus (first | omega | assumption | (simp; done) | (simp; omega)))))
    refine ev_eq (Ev.now _) ?_
    rw [mk_sv s h0, wexp (by omega) (by omega) (by omega)]
end Go.Proofs.YtclegbgmhimenaaDoor.Eng.K

/- Dyadic numbers, the reference: signs, tops, sums, differences, products, which is above which. -/
set_option linter.unusedVariables false
set_option linter.unusedSimpArgs false
namespace Go.Proofs.YtclegbgmhimenaaDoor.Eng.K
open Go.RowKit

/-- z times 2^e, told in units of 2^m (m not above e). -/
def al (z e m : Int) : Int := z * 2 ^ (e - m).toNat
theorem al_sv (s : Bool) (n : Nat) (e m : Int) : al (sv s n) e m = sv s (n * 2 ^ (e - m).toNat) := by
  unfold al sv
  split
  · rw [Int.neg_mul, Int.natCast_mul, Int.natCast_pow]; rfl
  · rw [Int.natCast_mul, Int.natCast_pow]; rfl
theorem sv_not (s : Bool) (n : Nat) : sv (!s) n = -sv s n := by unfold sv; cases s <;> simp
theorem len_pos {l : List Int} (c : l ≠ []) : (l.length : Int) > 0 := by
  have := List.length_pos_iff.2 c
  omega
theorem mk_Near {z e : Int} : (mk z e).2.1 = D (z.natAbs / 2 ^ lw z.natAbs) := by
  unfold mk
  by_cases h : z = 0
  · subst h; rw [if_pos rfl]; simp [D_zero]
  · rw [if_neg h]
end Go.Proofs.YtclegbgmhimenaaDoor.Eng.K

/- Dyadic numbers, the reference: products, orders, floors, cuts, whole numbers. -/
set_option linter.unusedVariables false
set_option linter.unusedSimpArgs false
namespace Go.Proofs.YtclegbgmhimenaaDoor.Eng.K
open Go.RowKit

theorem sv_sign {s : Bool} {n : Nat} (h : n ≠ 0) : (sv s n).sign = if s = true then -1 else 1 := by
  unfold sv
  split
  · exact Int.sign_eq_neg_one_of_neg (by omega)
  · exact Int.sign_eq_one_of_pos (by omega)
/-- The place above the highest bit. -/
def top (z e : Int) : Int := if z = 0 then 0 else e + (bl z.natAbs : Nat)
end Go.Proofs.YtclegbgmhimenaaDoor.Eng.K

/- Dyadic numbers, the reference: which is above which, floors, cuts, whole numbers. -/
set_option linter.unusedVariables false
set_option linter.unusedSimpArgs false
namespace Go.Proofs.YtclegbgmhimenaaDoor.Eng.K
open Go.RowKit

theorem mk_sign (z e : Int) : (sv (mk z e).1 (V (mk z e).2.1)).sign = z.sign := by
  unfold mk
  by_cases h : z = 0
  · subst h; rfl
  · rw [if_neg h]
    have hn : z.natAbs ≠ 0 := by omega
    have h1 : V (D (z.natAbs / 2 ^ lw z.natAbs)) ≠ 0 := by
      rw [V_D]
      have h2 := (lw_is hn).le
      have := Nat.div_pos h2 (pw_pos _)
      omega
    show (sv (decide (z < 0)) (V (D (z.natAbs / 2 ^ lw z.natAbs)))).sign = z.sign
    rw [sv_sign h1]
    by_cases h3 : z < 0
    · rw [decide_eq_true h3, if_pos rfl, Int.sign_eq_neg_one_of_neg h3]
    · rw [decide_eq_false h3, if_neg (by simp), Int.sign_eq_one_of_pos (by omega)]
theorem sgn_cases (z : Int) : (z < 0 ∧ z.sign = -1) ∨ (z = 0 ∧ z.sign = 0) ∨ (0 < z ∧ z.sign = 1) := by
  rcases Int.lt_trichotomy z 0 with h | h | h
  · exact .inl ⟨h, Int.sign_eq_neg_one_of_neg h⟩
  · exact .inr (.inl ⟨h, by rw [h]; rfl⟩)
  · exact .inr (.inr ⟨h, Int.sign_eq_one_of_pos h⟩)
end Go.Proofs.YtclegbgmhimenaaDoor.Eng.K

/- Dyadic numbers, the program: what may be, whole numbers, signs, tops. -/
set_option linter.unusedVariables false
set_option linter.unusedSimpArgs false
namespace Go.Proofs.YtclegbgmhimenaaDoor.Eng.K
open Go.RowKit

theorem and_one32 (X : Nat) (hX : X < 4294967296) : Go.bits .and .u32 (X : Int) 1 = ((X % 2 : Nat) : Int) := by
  have h1 : (BitVec.ofInt 32 (X : Int)).toNat = X := by
    rw [BitVec.ofInt_natCast, BitVec.toNat_ofNat]; exact Nat.mod_eq_of_lt (by omega)
  show IntKind.u32.wrap ((BitVec.ofInt 32 (X : Int) &&& BitVec.ofInt 32 1).toNat : Int) = _
  have h2 : (BitVec.ofInt 32 (1 : Int)).toNat = 1 := by decide
  have h3 : ∀ n : Int, IntKind.u32.wrap n = n % 4294967296 := fun n => by simp [IntKind.wrap, IntKind.signed, IntKind.bits]
  rw [BitVec.toNat_and, h1, h2, h3, Nat.and_one_is_mod]
  omega
theorem low_digit {l : List Int} (h : Dg l) : Go.bits .and .u32 (rd l 0) 1 = ((V l % 2 : Nat) : Int) := by
  have h1 := h.getD 0
  have h2 := V_digit h 0
  rw [Nat.pow_zero, Nat.div_one] at h2
  have h3 : rd l 0 = l.getD 0 0 := rdn l 0
  rw [h3]
  obtain ⟨x, hx⟩ := Int.eq_ofNat_of_zero_le h1.1
  rw [hx] at h1 h2 ⊢
  rw [and_one32 x (by omega)]
  rw [Int.toNat_natCast] at h2
  omega
/-- A number that may be, in its one form. -/
structure My (s : Bool) (l : List Int) (e : Int) : Prop where
  dy : Dy s l e
  len : l.length ≤ 4096
  lo : -16777216 ≤ e
  hi : e ≤ 16777216
theorem dyad_May_true {s : Bool} {l : List Int} {e : Int} (h : My s l e) : dyad_May.f s l e = some true := by
  obtain ⟨hd, hl, h1, h2⟩ := h
  unfold dyad_May.f
  rw [nat_May_eq hd.nm.dg (by omega), Option.bind_some, may_iff.2 ⟨hl, hd.nm⟩, if_neg (by simp)]
  by_cases c : l = []
  · obtain ⟨h3, h4⟩ := hd.none c
    subst c; subst h3; subst h4
    rfl
  · have ho := hd.odd c
    rw [if_neg (fun h => c (nil_len.1 h)), if_pos (len_pos c), low_digit hd.nm.dg, if_pos (by omega)]
    unfold dyad_inside.f
    rw [if_pos h1, decide_eq_true h2]; rfl
theorem dyad_own_eq (s : Bool) {l : List Int} (e : Int) (h : l.length ≤ 4096) : dyad_own.f s l e = some (s, l, e) := by
  unfold dyad_own.f
  rw [if_pos (by omega)]
theorem dyad_Sign_ev {s : Bool} {l : List Int} {e : Int} (h : My s l e) : Ev (fun k => dyad_Sign.f k s l e) (sv s (V l)).sign := by
  unfold dyad_Sign.f
  refine ev_bind (dyad_May_true h) ?_
  (repeat (first | (with_reducible refine ev_pos ?_ ?_; focus (first | omega | assumption | (simp; done) | (simp; omega))) | (with_reducible refine ev_neg ?_ ?_; focus (first | omega | assumption | (simp; done) | (simp; omega)))))
  refine ev_step ?_
  simp only [dyad_Sign.j0]
  by_cases c : l = []
  · subst c
    (repeat (first | (with_reducible refine ev_pos ?_ ?_; focus (first | omega | assumption | (simp; done) | (simp; omega))) | (with_reducible refine ev_neg ?_ ?_; focus (first | omega | assumption | (simp; done) | (simp; omega)))))
    exact ev_eq (Ev.now _) (by rw [V_nil, sv_zero]; rfl)
  · have h1 := h.dy.odd c
    have h0 : V l ≠ 0 := by omega
    refine ev_neg (by simpa using fun e => c e) ?_
    rw [sv_sign h0]
    by_cases hs : s = true
    · refine ev_pos hs ?_
      exact ev_eq (Ev.now _) (if_pos hs).symm
    · refine ev_neg hs ?_
      exact ev_eq (Ev.now _) (if_neg hs).symm
theorem dyad_Top_ev {s : Bool} {l : List Int} {e : Int} (h : My s l e) : Ev (fun k => dyad_Top.f k s l e) (top (sv s (V l)) e) := by
  have hb := bl_list h.dy.nm.dg
  have hl := h.len
  have e1 := h.lo
  have e2 := h.hi
  unfold dyad_Top.f top
  refine ev_bind (dyad_May_true h) ?_
  (repeat (first | (with_reducible refine ev_pos ?_ ?_; focus (first | omega | assumption | (simp; done) | (simp; omega))) | (with_reducible refine ev_neg ?_ ?_; focus (first | omega | assumption | (simp; done) | (simp; omega)))))
  by_cases c : l = []
  · subst c
    (repeat (first | (with_reducible refine ev_pos ?_ ?_; focus (first | omega | assumption | (simp; done) | (simp; omega))) | (with_reducible refine ev_neg ?_ ?_; focus (first | omega | assumption | (simp; done) | (simp; omega)))))
    exact ev_eq (Ev.now _) (by rw [V_nil, sv_zero]; rfl)
  · have h1 := h.dy.odd c
    have h0 : V l ≠ 0 := by omega
    refine ev_neg (fun h => c (nil_len.1 h)) (Ev.bind (nat_Len_ev h.dy.nm hl) (ev_eq (Ev.now _) ?_))
    rw [if_neg (fun h => h0 (sv_eq_zero.1 h)), sv_abs, wexp (by omega) (by omega) (by omega)]
theorem makeR_ok {s : Bool} {n : Nat} {e : Int} (h1 : -16777216 ≤ e) (h2 : e + (bl n : Nat) ≤ 16777216) : makeR s n e = ((mk (sv s n) e).1, (mk (sv s n) e).2.1, (mk (sv s n) e).2.2, 0) := by
  unfold makeR
  by_cases h0 : n = 0
  · rw [if_pos h0, h0, sv_zero]; rfl
  · have := lw_lt h0
    rw [if_neg h0, if_neg (by omega), if_neg (by omega)]
theorem My_mk {z e : Int} (h1 : -16777216 ≤ e) (h2 : e + (bl z.natAbs : Nat) ≤ 16777216) (h3 : bl z.natAbs ≤ 131072) : My (mk z e).1 (mk z e).2.1 (mk z e).2.2 := by
  refine ⟨Dy_mk z e, ?_, ?_, ?_⟩
  · rw [mk_Near]
    refine len_bl ?_
    rw [bl_down]; omega
  · unfold mk
    by_cases h0 : z = 0
    · subst h0; rw [if_pos rfl]; decide
    · rw [if_neg h0]; show -16777216 ≤ e + ((lw z.natAbs : Nat) : Int); omega
  · unfold mk
    by_cases h0 : z = 0
    · subst h0; rw [if_pos rfl]; decide
    · have := lw_lt (n := z.natAbs) (by omega)
      rw [if_neg h0]; show e + ((lw z.natAbs : Nat) : Int) ≤ 16777216; omega
end Go.Proofs.YtclegbgmhimenaaDoor.Eng.K

/- Dyadic numbers, the program: sums, differences, products of numbers that are not too long. -/
set_option linter.unusedVariables false
set_option linter.unusedSimpArgs false
namespace Go.Proofs.YtclegbgmhimenaaDoor.Eng.K
open Go.RowKit

/-- A dyadic number with the answer's error (none). -/
def ok3 (d : Bool × List Int × Int) : Bool × List Int × Int × Int := (d.1, d.2.1, d.2.2, 0)
theorem makeR_ok3 {s : Bool} {n : Nat} {e : Int} (h1 : -16777216 ≤ e) (h2 : e + (bl n : Nat) ≤ 16777216) : makeR s n e = ok3 (mk (sv s n) e) := makeR_ok h1 h2
end Go.Proofs.YtclegbgmhimenaaDoor.Eng.K

/- Dyadic numbers, the program: differences, products, shifts, floors of numbers that are not too long. -/
set_option linter.unusedVariables false
set_option linter.unusedSimpArgs false
namespace Go.Proofs.YtclegbgmhimenaaDoor.Eng.K
open Go.RowKit

theorem dyad_Shift_eq {s : Bool} {l : List Int} {e n : Int} (h : My s l e) (hn : -1000000000000 ≤ n ∧ n ≤ 1000000000000) (h1 : -16777216 ≤ e + n) (h2 : e + n ≤ 16777216) : dyad_Shift.f s l e n = some (ok3 (mk (sv s (V l)) (e + n))) := by
  have lo := h.lo
  have hi := h.hi
  unfold dyad_Shift.f
  rw [dyad_May_true h, Option.bind_some, if_neg (by simp)]
  by_cases c : l = []
  · subst c
    rw [if_pos (nil_len.2 rfl), V_nil, sv_zero]; rfl
  · have ho := h.dy.odd c
    have h0 : V l ≠ 0 := by omega
    have e1 : wrap64 (16777216 - e) = 16777216 - e := by unfold wrap64; omega
    have e2 : wrap64 (-16777216 - e) = -16777216 - e := by unfold wrap64; omega
    have e3 : wrap64 (e + n) = e + n := by unfold wrap64; omega
    rw [if_neg (fun h => c (nil_len.1 h)), e1, e2, if_neg (by omega), if_neg (by omega), dyad_own_eq s e h.len, Option.bind_some, e3]
    rw [mk_sv _ h0, lw_odd ho, Nat.pow_zero, Nat.div_one, h.dy.nm]
    simp [ok3]
end Go.Proofs.YtclegbgmhimenaaDoor.Eng.K

/- Words of both formats: their shapes, and their bits as numbers. -/
set_option linter.unusedVariables false
set_option linter.unusedSimpArgs false
namespace Go.Proofs.YtclegbgmhimenaaDoor.Eng.K
open Go.RowKit

theorem bv64 (n : Nat) (h : n < 18446744073709551616) : (BitVec.ofInt 64 (n : Int)).toNat = n := by
  rw [BitVec.ofInt_natCast, BitVec.toNat_ofNat]; exact Nat.mod_eq_of_lt (by omega)
theorem and64 (a b : Nat) (ha : a < 18446744073709551616) (hb : b < 18446744073709551616) : Go.bits .and .u64 (a : Int) (b : Int) = ((a &&& b : Nat) : Int) := by
  show IntKind.u64.wrap ((BitVec.ofInt 64 (a : Int) &&& BitVec.ofInt 64 (b : Int)).toNat : Int) = _
  have hx : a &&& b < 2 ^ 64 := Nat.and_lt_two_pow _ (by omega)
  rw [BitVec.toNat_and, bv64 a ha, bv64 b hb, u64m]
  omega
theorem or64 (a b : Nat) (ha : a < 18446744073709551616) (hb : b < 18446744073709551616) : Go.bits .or .u64 (a : Int) (b : Int) = ((a ||| b : Nat) : Int) := by
  show IntKind.u64.wrap ((BitVec.ofInt 64 (a : Int) ||| BitVec.ofInt 64 (b : Int)).toNat : Int) = _
  have hx : a ||| b < 2 ^ 64 := Nat.or_lt_two_pow (by omega) (by omega)
  rw [BitVec.toNat_or, bv64 a ha, bv64 b hb, u64m]
  omega
theorem andNot64 (a b : Nat) (ha : a < 18446744073709551616) (hb : b < 18446744073709551616) : Go.bits .andNot .u64 (a : Int) (b : Int) = ((a &&& (18446744073709551616 - 1 - b) : Nat) : Int) := by
  show IntKind.u64.wrap ((BitVec.ofInt 64 (a : Int) &&& ~~~(BitVec.ofInt 64 (b : Int))).toNat : Int) = _
  have hx : a &&& (18446744073709551616 - 1 - b) < 2 ^ 64 := Nat.and_lt_two_pow _ (by omega)
  rw [BitVec.toNat_and, BitVec.toNat_not, bv64 a ha, bv64 b hb, u64m]
  have e : 2 ^ 64 - 1 - b = 18446744073709551616 - 1 - b := by omega
  rw [e]
  omega
/-- The low bits. -/
theorem and_low (a k : Nat) (ha : a < 18446744073709551616) (hk : k ≤ 63) : Go.bits .and .u64 (a : Int) ((2 ^ k - 1 : Nat) : Int) = ((a % 2 ^ k : Nat) : Int) := by
  have h1 : 2 ^ k ≤ 2 ^ 63 := Nat.pow_le_pow_right (by omega) hk
  rw [and64 a _ ha (by omega), Nat.and_two_pow_sub_one_eq_mod]
/-- All but the highest bit. -/
theorem andNot_top (w k : Nat) (hk : k ≤ 63) (hw : w < 2 ^ (k + 1)) : Go.bits .andNot .u64 (w : Int) ((2 ^ k : Nat) : Int) = ((w % 2 ^ k : Nat) : Int) := by
  have h1 : 2 ^ k ≤ 2 ^ 63 := Nat.pow_le_pow_right (by omega) hk
  have h2 : 2 ^ (k + 1) ≤ 2 ^ 64 := Nat.pow_le_pow_right (by omega) (by omega)
  rw [andNot64 w _ (by omega) (by omega)]
  congr 1
  apply Nat.eq_of_testBit_eq
  intro i
  have e : 18446744073709551616 - 1 - 2 ^ k = 2 ^ 64 - (2 ^ k + 1) := by omega
  rw [Nat.testBit_and, Nat.testBit_mod_two_pow, e, Nat.testBit_two_pow_sub_succ (by omega), Nat.testBit_two_pow]
  rcases Nat.lt_trichotomy i k with h | h | h
  · have h3 : i < 64 := by omega
    have h4 : ¬ k = i := by omega
    simp [h, h3, h4]
  · subst h; simp
  · have h3 : w.testBit i = false := Nat.testBit_lt_two_pow (Nat.lt_of_lt_of_le hw (Nat.pow_le_pow_right (by omega) (by omega)))
    have h4 : ¬ i < k := by omega
    simp [h3, h4]
theorem and_top (w k : Nat) (hk : k ≤ 63) (hw : w < 2 ^ (k + 1)) : Go.bits .and .u64 (w : Int) ((2 ^ k : Nat) : Int) = ((w / 2 ^ k * 2 ^ k : Nat) : Int) := by
  have h1 : 2 ^ k ≤ 2 ^ 63 := Nat.pow_le_pow_right (by omega) hk
  have h2 : 2 ^ (k + 1) ≤ 2 ^ 64 := Nat.pow_le_pow_right (by omega) (by omega)
  rw [and64 w _ (by omega) (by omega)]
  congr 1
  apply Nat.eq_of_testBit_eq
  intro i
  rw [Nat.testBit_and, Nat.testBit_two_pow, Nat.testBit_mul_two_pow, Nat.testBit_div_two_pow]
  rcases Nat.lt_trichotomy i k with h | h | h
  · have h3 : ¬ k = i := by omega
    have h4 : ¬ k ≤ i := by omega
    simp [h3, h4]
  · subst h; simp
  · have h3 : w.testBit i = false := Nat.testBit_lt_two_pow (Nat.lt_of_lt_of_le hw (Nat.pow_le_pow_right (by omega) (by omega)))
    have h4 : ¬ k = i := by omega
    have h5 : i - k + k = i := by omega
    simp [h3, h4, h5]
/-- Bits that don't meet. -/
theorem or_sum (a b k : Nat) (hb : b < 2 ^ k) (h : a * 2 ^ k + b < 18446744073709551616) : Go.bits .or .u64 ((a * 2 ^ k : Nat) : Int) (b : Int) = ((a * 2 ^ k + b : Nat) : Int) := by
  rw [or64 _ _ (by omega) (by omega)]
  congr 1
  rw [Nat.mul_comm]
  exact (Nat.two_pow_add_eq_or_of_lt hb a).symm
theorem or_comm64 (a b : Nat) (ha : a < 18446744073709551616) (hb : b < 18446744073709551616) : Go.bits .or .u64 (a : Int) (b : Int) = Go.bits .or .u64 (b : Int) (a : Int) := by
  rw [or64 a b ha hb, or64 b a hb ha, Nat.or_comm]
end Go.Proofs.YtclegbgmhimenaaDoor.Eng.K

/- Words of both formats, the program: open, class, fields. -/
set_option linter.unusedVariables false
set_option linter.unusedSimpArgs false
namespace Go.Proofs.YtclegbgmhimenaaDoor.Eng.K
open Go.RowKit

/-- A format; its fraction's bits, its greatest exponent field, its sign's place. -/
def isF (f : Int) : Prop := f = 1 ∨ f = 2
def fb (f : Int) : Nat := if f = 1 then 23 else 52
def mo (f : Int) : Nat := if f = 1 then 255 else 2047
def sk (f : Int) : Nat := if f = 1 then 31 else 63
def sg (f : Int) : Nat := if f = 1 then 2147483648 else 9223372036854775808
theorem shapeOf_eq {f : Int} (h : isF f) : word_shapeOf.f f = some ((fb f : Int), (mo f : Int), (sg f : Int), true) := by
  rcases h with rfl | rfl <;> rfl
theorem word_open_nil {f : Int} (h : isF f) : Ev (fun k => word_open.f k f []) ((fb f : Int), (mo f : Int), (sg f : Int), 0) := by
  unfold word_open.f
  refine ev_bind (shapeOf_eq h) ?_
  (repeat (first | (with_reducible refine ev_pos ?_ ?_; focus (first | omega | assumption | (simp; done) | (simp; omega))) | (with_reducible refine ev_neg ?_ ?_; focus (first | omega | assumption | (simp; done) | (simp; omega)))))
  refine ev_step ?_
  simp only [word_open.l0]
  (repeat (first | (with_reducible refine ev_pos ?_ ?_; focus (first | omega | assumption | (simp; done) | (simp; omega))) | (with_reducible refine ev_neg ?_ ?_; focus (first | omega | assumption | (simp; done) | (simp; omega)))))
  exact Ev.now _
theorem most_word {f : Int} (h : isF f) : Go.bits .or .u64 (sg f : Int) (IntKind.u64.wrap ((sg f : Int) - 1)) = ((2 * sg f - 1 : Nat) : Int) := by
  rcases h with rfl | rfl
  · have e : IntKind.u64.wrap (((sg 1 : Nat) : Int) - 1) = ((2147483647 : Nat) : Int) := by rw [u64m]; rfl
    rw [e, or64 _ _ (by decide) (by decide)]; rfl
  · have e : IntKind.u64.wrap (((sg 2 : Nat) : Int) - 1) = ((9223372036854775807 : Nat) : Int) := by rw [u64m]; rfl
    rw [e, or64 _ _ (by decide) (by decide)]; rfl
theorem sg_pos {f : Int} (h : isF f) : 0 < sg f ∧ 2 * sg f ≤ 18446744073709551616 := by rcases h with rfl | rfl <;> decide
theorem sg_pow {f : Int} (h : isF f) : sg f = 2 ^ sk f := by rcases h with rfl | rfl <;> decide
theorem sk_le {f : Int} (h : isF f) : sk f ≤ 63 := by rcases h with rfl | rfl <;> decide
/-- The error of a word that is none of the format's. -/
def goodE (f : Int) (w : Nat) : Int := if w < 2 * sg f then 0 else 6
theorem word_open_one {f : Int} (h : isF f) (w : Nat) : Ev (fun k => word_open.f k f [(w : Int)]) ((fb f : Int), (mo f : Int), (sg f : Int), goodE f w) := by
  have hp := sg_pos h
  unfold word_open.f goodE
  have e1 : wrap64 (0 + 1) = 1 := by rw [w64n (by omega) (by omega)]; rfl
  have el : (([(w : Int)] : List Int).length : Int) = 1 := rfl
  have er : rd [(w : Int)] 0 = (w : Int) := rfl
  refine ev_bind (shapeOf_eq h) ?_
  (repeat (first | (with_reducible refine ev_pos ?_ ?_; focus (first | omega | assumption | (simp; done) | (simp; omega))) | (with_reducible refine ev_neg ?_ ?_; focus (first | omega | assumption | (simp; done) | (simp; omega)))))
  refine ev_step ?_
  simp only [word_open.l0, el, e1, er, most_word h]
  (repeat (first | (with_reducible refine ev_pos ?_ ?_; focus (first | omega | assumption | (simp; done) | (simp; omega))) | (with_reducible refine ev_neg ?_ ?_; focus (first | omega | assumption | (simp; done) | (simp; omega)))))
  by_cases c : w < 2 * sg f
  · rw [if_pos c]
    (repeat (first | (with_reducible refine ev_pos ?_ ?_; focus (first | omega | assumption | (simp; done) | (simp; omega))) | (with_reducible refine ev_neg ?_ ?_; focus (first | omega | assumption | (simp; done) | (simp; omega)))))
    refine ev_step ?_
    simp only [word_open.l0, el]
    (repeat (first | (with_reducible refine ev_pos ?_ ?_; focus (first | omega | assumption | (simp; done) | (simp; omega))) | (with_reducible refine ev_neg ?_ ?_; focus (first | omega | assumption | (simp; done) | (simp; omega)))))
    exact Ev.now _
  · rw [if_neg c]
    (repeat (first | (with_reducible refine ev_pos ?_ ?_; focus (first | omega | assumption | (simp; done) | (simp; omega))) | (with_reducible refine ev_neg ?_ ?_; focus (first | omega | assumption | (simp; done) | (simp; omega)))))
    exact Ev.now _
theorem shl_mo {f : Int} (h : isF f) : shl .u64 ((mo f : Nat) : Int) ((fb f : Nat) : Int) = ((mo f * 2 ^ fb f : Nat) : Int) := by
  rcases h with rfl | rfl <;> decide
theorem inf_eq {f : Int} (h : isF f) : word_shape_inf.f (fb f : Int) (mo f : Int) (sg f : Int) = some ((mo f * 2 ^ fb f : Nat) : Int) := by
  unfold word_shape_inf.f
  have hm : mo f < 10000 := by rcases h with rfl | rfl <;> decide
  rw [if_pos (by omega), u64 (by omega) (by omega), shl_mo h]
/-- What a word stands for: 1 nought, 2 subnormal, 3 normal, 4 infinite, 5 none. -/
def cls (f : Int) (w : Nat) : Int :=
  if w % sg f = 0 then 1 else if w % sg f < 2 ^ fb f then 2 else if w % sg f < mo f * 2 ^ fb f then 3 else if w % sg f = mo f * 2 ^ fb f then 4 else 5
theorem size_eq {f : Int} (h : isF f) {w : Nat} (hw : w < 2 * sg f) : Go.bits .andNot .u64 (w : Int) (sg f : Int) = ((w % sg f : Nat) : Int) := by
  rw [sg_pow h] at hw ⊢
  exact andNot_top w (sk f) (sk_le h) (by rw [Nat.pow_succ, Nat.mul_comm]; exact hw)
theorem one_shl {f : Int} (h : isF f) : shl .u64 1 ((fb f : Nat) : Int) = ((2 ^ fb f : Nat) : Int) := by rcases h with rfl | rfl <;> decide
theorem class_eq {f : Int} (h : isF f) {w : Nat} (hw : w < 2 * sg f) : word_shape_class.f (fb f : Int) (mo f : Int) (sg f : Int) (w : Int) = some (cls f w) := by
  unfold word_shape_class.f cls
  rw [size_eq h hw, one_shl h]
  generalize w % sg f = z
  by_cases c1 : z = 0
  · rw [if_pos (by omega), if_pos c1]
  rw [if_neg (by omega), if_neg c1, if_pos (by omega)]
  by_cases c2 : z < 2 ^ fb f
  · rw [if_pos (by omega), if_pos c2]
  rw [if_neg (by omega), if_neg c2, inf_eq h, Option.bind_some]
  by_cases c3 : z < mo f * 2 ^ fb f
  · rw [if_pos (by omega), if_pos c3]
  rw [if_neg (by omega), if_neg c3, Option.bind_some]
  by_cases c4 : z = mo f * 2 ^ fb f
  · rw [if_pos (by omega), if_pos c4]
  · rw [if_neg (by omega), if_neg c4]
theorem word_Class_ev {f : Int} (h : isF f) {w : Nat} (hw : w < 2 * sg f) : Ev (fun k => word_Class.f k f (w : Int)) (cls f w, 0) := by
  have ho := word_open_one h w
  unfold goodE at ho
  rw [if_pos hw] at ho
  unfold word_Class.f
  refine Ev.bind ho ?_
  (repeat (first | (with_reducible refine ev_pos ?_ ?_; focus (first | omega | assumption | (simp; done) | (simp; omega))) | (with_reducible refine ev_neg ?_ ?_; focus (first | omega | assumption | (simp; done) | (simp; omega)))))
  refine ev_bind (class_eq h hw) ?_
  (repeat (first | (with_reducible refine ev_pos ?_ ?_; focus (first | omega | assumption | (simp; done) | (simp; omega))) | (with_reducible refine ev_neg ?_ ?_; focus (first | omega | assumption | (simp; done) | (simp; omega)))))
  exact Ev.now _
end Go.Proofs.YtclegbgmhimenaaDoor.Eng.K

/- Words of both formats, the program: fields, values. -/
set_option linter.unusedVariables false
set_option linter.unusedSimpArgs false
namespace Go.Proofs.YtclegbgmhimenaaDoor.Eng.K
open Go.RowKit

/-- A word's sign, exponent field, fraction. -/
def wneg (f : Int) (w : Nat) : Bool := decide (sg f ≤ w)
def wexpo (f : Int) (w : Nat) : Nat := w % sg f / 2 ^ fb f
def wfrac (f : Int) (w : Nat) : Nat := w % sg f % 2 ^ fb f
theorem fb_le {f : Int} (h : isF f) : fb f ≤ 52 := by rcases h with rfl | rfl <;> decide
theorem sg_big {f : Int} (h : isF f) : sg f = 2 ^ fb f * (mo f + 1) := by rcases h with rfl | rfl <;> decide
theorem pfb {f : Int} (h : isF f) : 2 ^ fb f ≤ 4503599627370496 := by rcases h with rfl | rfl <;> decide
theorem mo_le {f : Int} (h : isF f) : mo f ≤ 2047 := by rcases h with rfl | rfl <;> decide
theorem split_eq {f : Int} (h : isF f) {w : Nat} (hw : w < 2 * sg f) : word_shape_split.f (fb f : Int) (mo f : Int) (sg f : Int) (w : Int) = some (wneg f w, (wexpo f w : Int), (wfrac f w : Int)) := by
  have hp := sg_pos h
  have hk := sk_le h
  have h52 := fb_le h
  have hpw := pfb h
  have hpp := pw_pos (fb f)
  unfold word_shape_split.f
  rw [size_eq h hw, one_shl h]
  have h1 : Go.bits .and .u64 (w : Int) (sg f : Int) = ((w / sg f * sg f : Nat) : Int) := by
    rw [sg_pow h] at hw ⊢
    exact and_top w (sk f) hk (by rw [Nat.pow_succ, Nat.mul_comm]; exact hw)
  have hz : w % sg f < sg f := Nat.mod_lt _ hp.1
  have h2 : IntKind.u64.wrap (((2 ^ fb f : Nat) : Int) - 1) = ((2 ^ fb f - 1 : Nat) : Int) := by rw [u64m]; omega
  have h3 := and_low (w % sg f) (fb f) (by omega) (by omega)
  have h4 : shr .u64 ((w % sg f : Nat) : Int) ((fb f : Nat) : Int) = ((w % sg f / 2 ^ fb f : Nat) : Int) := shr_n _ _ (by show fb f ≤ 64; omega)
  have h5 : wrap64 ((w % sg f / 2 ^ fb f : Nat) : Int) = ((w % sg f / 2 ^ fb f : Nat) : Int) := by
    have hq : w % sg f / 2 ^ fb f < mo f + 1 := Nat.div_lt_of_lt_mul (by rw [← sg_big h]; exact hz)
    have hm := mo_le h
    clear h1 h2 h3 h4
    generalize w % sg f / 2 ^ fb f = q at hq ⊢
    exact w64n (by omega) (by omega)
  rw [h1, h2, h3, h4, h5]
  have h6 : (decide (¬ (((w / sg f * sg f : Nat) : Int) = 0))) = wneg f w := by
    unfold wneg
    by_cases c : sg f ≤ w
    · have : w / sg f = 1 := Nat.div_eq_of_lt_le (by omega) (by omega)
      rw [this, decide_eq_true c]
      exact decide_eq_true (by omega)
    · rw [Nat.div_eq_of_lt (by omega), decide_eq_false c]
      simp
  rw [h6, if_pos (by omega)]
  rfl
theorem word_Split_ev {f : Int} (h : isF f) {w : Nat} (hw : w < 2 * sg f) : Ev (fun k => word_Split.f k f (w : Int)) (wneg f w, (wexpo f w : Int), (wfrac f w : Int), 0) := by
  have ho := word_open_one h w
  unfold goodE at ho
  rw [if_pos hw] at ho
  unfold word_Split.f
  refine Ev.bind ho ?_
  (repeat (first | (with_reducible refine ev_pos ?_ ?_; focus (first | omega | assumption | (simp; done) | (simp; omega))) | (with_reducible refine ev_neg ?_ ?_; focus (first | omega | assumption | (simp; done) | (simp; omega)))))
  refine ev_bind (split_eq h hw) ?_
  (repeat (first | (with_reducible refine ev_pos ?_ ?_; focus (first | omega | assumption | (simp; done) | (simp; omega))) | (with_reducible refine ev_neg ?_ ?_; focus (first | omega | assumption | (simp; done) | (simp; omega)))))
  exact Ev.now _
/-- The least exponent. -/
def lo (f : Int) : Int := if f = 1 then -149 else -1074
theorem low_eq {f : Int} (h : isF f) : word_shape_low.f (fb f : Int) (mo f : Int) (sg f : Int) = some (lo f) := by
  unfold word_shape_low.f
  have e : wrap64 (Int.tdiv ((mo f : Nat) : Int) 2) = ((mo f / 2 : Nat) : Int) := by
    have := mo_le h
    exact w64n (by show (0 : Int) ≤ ((mo f / 2 : Nat) : Int); omega) (by show ((mo f / 2 : Nat) : Int) < _; omega)
  have hm := mo_le h
  have hb := fb_le h
  rw [e]
  have e2 : wrap64 (1 - ((mo f / 2 : Nat) : Int)) = 1 - ((mo f / 2 : Nat) : Int) := by unfold wrap64; omega
  rw [e2]
  have e3 : wrap64 (1 - ((mo f / 2 : Nat) : Int) - ((fb f : Nat) : Int)) = 1 - ((mo f / 2 : Nat) : Int) - ((fb f : Nat) : Int) := by unfold wrap64; omega
  rw [e3]
  rcases h with rfl | rfl <;> rfl
/-- A finite word's size as a whole number, and its exponent. -/
def wmag (f : Int) (w : Nat) : Nat := if wexpo f w = 0 then wfrac f w else 2 ^ fb f + wfrac f w
def wex (f : Int) (w : Nat) : Int := (if wexpo f w = 0 then 0 else (wexpo f w : Int) - 1) + lo f
theorem finite_ev {f : Int} (h : isF f) {w : Nat} (hw : w < 2 * sg f) : Ev (fun k => word_finite.f k f (w : Int)) ((fb f : Int), (mo f : Int), (sg f : Int), if cls f w ≥ 4 then 7 else 0) := by
  have ho := word_open_one h w
  unfold goodE at ho
  rw [if_pos hw] at ho
  unfold word_finite.f
  refine Ev.bind ho ?_
  (repeat (first | (with_reducible refine ev_pos ?_ ?_; focus (first | omega | assumption | (simp; done) | (simp; omega))) | (with_reducible refine ev_neg ?_ ?_; focus (first | omega | assumption | (simp; done) | (simp; omega)))))
  refine ev_bind (class_eq h hw) ?_
  (repeat (first | (with_reducible refine ev_pos ?_ ?_; focus (first | omega | assumption | (simp; done) | (simp; omega))) | (with_reducible refine ev_neg ?_ ?_; focus (first | omega | assumption | (simp; done) | (simp; omega)))))
  by_cases c : cls f w ≥ 4
  · refine ev_pos c ?_
    exact ev_eq (Ev.now _) (by rw [if_pos c])
  · refine ev_neg c ?_
    exact ev_eq (Ev.now _) (by rw [if_neg c])
theorem mx1 (n : Nat) : (wrap64 ((mx (n : Int) 1) - 1) = if n = 0 then 0 else (n : Int) - 1) ∨ 4611686018427387904 ≤ n := by
  by_cases hb : n < 4611686018427387904
  · left
    have e : mx (n : Int) 1 = ((max n 1 : Nat) : Int) := mx_n n 1
    rw [e, w64n (by omega) (by omega)]
    split <;> omega
  · right; omega
theorem word_Value_ev {f : Int} (h : isF f) {w : Nat} (hw : w < 2 * sg f) (hc : cls f w < 4) : Ev (fun k => word_Value.f k f (w : Int)) (ok3 (mk (sv (wneg f w) (wmag f w)) (wex f w))) := by
  have hf := finite_ev h hw
  rw [if_neg (by omega)] at hf
  have hp := sg_pos h
  have hz : w % sg f < sg f := Nat.mod_lt _ hp.1
  have he : wexpo f w < mo f + 1 := Nat.div_lt_of_lt_mul (by rw [← sg_big h]; exact hz)
  have hm := mo_le h
  have hfr : wfrac f w < 2 ^ fb f := Nat.mod_lt _ (pw_pos _)
  have hpw := pfb h
  have h52 := fb_le h
  have hlo : -1074 ≤ lo f ∧ lo f ≤ -149 := by rcases h with rfl | rfl <;> decide
  have hmx := (mx1 (wexpo f w)).resolve_right (by omega)
  have hbl : ∀ m : Nat, m < 18446744073709551616 → bl m ≤ 64 := fun m hm => bl_le_of_lt (by omega)
  unfold word_Value.f
  refine Ev.bind hf ?_
  (repeat (first | (with_reducible refine ev_pos ?_ ?_; focus (first | omega | assumption | (simp; done) | (simp; omega))) | (with_reducible refine ev_neg ?_ ?_; focus (first | omega | assumption | (simp; done) | (simp; omega)))))
  refine ev_bind (split_eq h hw) ?_
  (repeat (first | (with_reducible refine ev_pos ?_ ?_; focus (first | omega | assumption | (simp; done) | (simp; omega))) | (with_reducible refine ev_neg ?_ ?_; focus (first | omega | assumption | (simp; done) | (simp; omega)))))
  have hex : wrap64 (wrap64 ((mx (wexpo f w : Int) 1) - 1) + lo f) = wex f w := by
    rw [hmx]
    unfold wex wrap64
    split <;> omega
  have hwx : -1074 ≤ wex f w ∧ wex f w ≤ 3000 := by unfold wex; split <;> omega
  by_cases c : wexpo f w = 0
  · have hm0 : wmag f w = wfrac f w := by unfold wmag; rw [if_pos c]
    have o1 := nat_Of_ev (n := (wfrac f w : Int)) (by omega) (by omega)
    rw [Int.toNat_natCast] at o1
    have hb := hbl (wfrac f w) (by omega)
    have m1 := dyad_Make_ev (wneg f w) (Nm_D (wfrac f w)) (len_bl (by omega)) (wex f w)
    rw [V_D, makeR_ok3 (by omega) (by omega)] at m1
    dsimp only
    (repeat (first | (with_reducible refine ev_pos ?_ ?_; focus (first | omega | assumption | (simp; done) | (simp; omega))) | (with_reducible refine ev_neg ?_ ?_; focus (first | omega | assumption | (simp; done) | (simp; omega)))))
    refine ev_step ?_; simp only [word_Value.j1]
    refine Ev.bind (o1) ?_; try dsimp only
    refine ev_bind (low_eq h) ?_; try dsimp only
    rw [hex, hm0]
    refine Ev.bind m1 ?_
    (repeat (first | (with_reducible refine ev_pos ?_ ?_; focus (first | omega | assumption | (simp; done) | (simp; omega))) | (with_reducible refine ev_neg ?_ ?_; focus (first | omega | assumption | (simp; done) | (simp; omega)))))
    exact Ev.now _
  · have hm0 : wmag f w = 1 * 2 ^ fb f + wfrac f w := by unfold wmag; rw [if_neg c, Nat.one_mul]
    have eo : Go.bits .or .u64 (wfrac f w : Int) (shl .u64 1 ((fb f : Nat) : Int)) = ((wmag f w : Nat) : Int) := by
      rw [one_shl h, or_comm64 _ _ (by omega) (by omega), hm0]
      have := or_sum 1 (wfrac f w) (fb f) hfr (by omega)
      rw [Nat.one_mul] at this
      rw [this, Nat.one_mul]
    have hlt : wmag f w < 18446744073709551616 := by omega
    have o1 := nat_Of_ev (n := (wmag f w : Int)) (by omega) (by omega)
    rw [Int.toNat_natCast] at o1
    have hb := hbl (wmag f w) hlt
    have m1 := dyad_Make_ev (wneg f w) (Nm_D (wmag f w)) (len_bl (by omega)) (wex f w)
    rw [V_D, makeR_ok3 (by omega) (by omega)] at m1
    dsimp only
    (repeat (first | (with_reducible refine ev_pos ?_ ?_; focus (first | omega | assumption | (simp; done) | (simp; omega))) | (with_reducible refine ev_neg ?_ ?_; focus (first | omega | assumption | (simp; done) | (simp; omega)))))
    refine ev_step ?_; simp only [word_Value.j1]
    rw [eo]
    refine Ev.bind (o1) ?_; try dsimp only
    refine ev_bind (low_eq h) ?_; try dsimp only
    rw [hex]
    refine Ev.bind m1 ?_
    (repeat (first | (with_reducible refine ev_pos ?_ ?_; focus (first | omega | assumption | (simp; done) | (simp; omega))) | (with_reducible refine ev_neg ?_ ?_; focus (first | omega | assumption | (simp; done) | (simp; omega)))))
    exact Ev.now _
end Go.Proofs.YtclegbgmhimenaaDoor.Eng.K

/- The program's words of numbers, and its named words. -/
set_option linter.unusedVariables false
set_option linter.unusedSimpArgs false
namespace Go.Proofs.YtclegbgmhimenaaDoor.Eng.K
open Go.RowKit

/-- Bits of a finite number; finite numbers are below two to that. -/
def pr (f : Int) : Nat := if f = 1 then 24 else 53
def wd (f : Int) : Int := if f = 1 then 128 else 1024
def sgn (f : Int) (s : Bool) : Nat := if s = true then sg f else 0
/-- Where a word's unit lies; the word of a size, without its sign. -/
def unit (f : Int) (n : Nat) (e : Int) : Int := max (e + (bl n : Nat) - (pr f : Nat)) (lo f)
def enc (f : Int) (n : Nat) (e : Int) : Nat := (unit f n e - lo f).toNat * 2 ^ fb f + n * 2 ^ (e - unit f n e).toNat
theorem pr_eq {f : Int} (h : isF f) : pr f = fb f + 1 := by rcases h with rfl | rfl <;> rfl
theorem wd_eq {f : Int} (h : isF f) : wd f = ((mo f / 2 : Nat) : Int) + 1 := by rcases h with rfl | rfl <;> rfl
theorem lo_b {f : Int} (h : isF f) : -1074 ≤ lo f ∧ lo f ≤ -149 := by rcases h with rfl | rfl <;> decide
theorem wd_b {f : Int} (h : isF f) : 128 ≤ wd f ∧ wd f ≤ 1024 := by rcases h with rfl | rfl <;> decide
theorem fits_room {f : Int} (h : isF f) : wd f - (pr f : Nat) - lo f = ((mo f - 2 : Nat) : Int) := by rcases h with rfl | rfl <;> rfl
theorem mo_ge {f : Int} (h : isF f) : 255 ≤ mo f := by rcases h with rfl | rfl <;> decide
theorem unit_ge (f : Int) (n : Nat) (e : Int) : lo f ≤ unit f n e := by unfold unit; omega
theorem part_lt {f : Int} {n : Nat} {e : Int} (hn : bl n ≤ pr f) (he : lo f ≤ e) : n * 2 ^ (e - unit f n e).toNat < 2 ^ pr f := by
  have h1 := lt_bl n
  have h2 : n * 2 ^ (e - unit f n e).toNat < 2 ^ bl n * 2 ^ (e - unit f n e).toNat := Nat.mul_lt_mul_of_pos_right h1 (pw_pos _)
  rw [← Nat.pow_add] at h2
  exact Nat.lt_of_lt_of_le h2 (Nat.pow_le_pow_right (by omega) (by unfold unit; omega))
theorem unit_le {f : Int} {n : Nat} {e : Int} (hn : bl n ≤ pr f) (he : lo f ≤ e) : unit f n e ≤ e := by unfold unit; omega
theorem enc_lt {f : Int} (h : isF f) {n : Nat} {e : Int} (hn : bl n ≤ pr f) (he : lo f ≤ e) (hw : e + (bl n : Nat) ≤ wd f) : enc f n e < mo f * 2 ^ fb f ∧ (unit f n e - lo f).toNat ≤ mo f - 2 := by
  have h1 := part_lt hn he
  have h2 := fits_room h
  have h3 := mo_ge h
  have h4 : (unit f n e - lo f).toNat ≤ mo f - 2 := by unfold unit; omega
  refine ⟨?_, h4⟩
  unfold enc
  rw [pr_eq h, Nat.pow_succ] at h1
  have h5 : (unit f n e - lo f).toNat * 2 ^ fb f ≤ (mo f - 2) * 2 ^ fb f := Nat.mul_le_mul_right _ h4
  have h6 : (mo f - 2) * 2 ^ fb f + 2 ^ fb f * 2 = mo f * 2 ^ fb f := by
    rw [Nat.mul_comm (2 ^ fb f) 2, ← Nat.add_mul]; congr 1; omega
  omega
theorem inf_lt {f : Int} (h : isF f) : mo f * 2 ^ fb f + 2 ^ fb f = sg f := by rcases h with rfl | rfl <;> decide
theorem shl_u64 {X s : Nat} (h : X * 2 ^ s < 18446744073709551616) (hs : s ≤ 64) : shl .u64 (X : Int) (s : Int) = ((X * 2 ^ s : Nat) : Int) := by
  unfold shl
  have e : min (s : Int).toNat IntKind.u64.bits = s := by
    have : IntKind.u64.bits = 64 := rfl
    omega
  rw [e, pow_cast, ← Int.natCast_mul]
  exact u64 (by omega) (by omega)
theorem or_sign {f : Int} (h : isF f) {x : Nat} (hx : x < sg f) : Go.bits .or .u64 (x : Int) (sg f : Int) = ((x + sg f : Nat) : Int) := by
  have hp := sg_pos h
  rw [or_comm64 _ _ (by omega) (by omega)]
  have h1 := or_sum 1 x (sk f) (by rw [← sg_pow h]; exact hx) (by rw [← sg_pow h]; omega)
  rw [Nat.one_mul, ← sg_pow h] at h1
  rw [h1, Nat.add_comm]
theorem or_zero64 {x : Nat} (h : x < 18446744073709551616) : Go.bits .or .u64 0 (x : Int) = (x : Int) := by
  have := or64 0 x (by omega) h
  rw [Nat.zero_or] at this
  exact this
theorem join_eq {f : Int} (h : isF f) {x : Nat} (hx : x < sg f) (s : Bool) : word_shape_join.f (fb f : Int) (mo f : Int) (sg f : Int) s 0 (x : Int) = some ((x + sgn f s : Nat) : Int) := by
  have hp := sg_pos h
  have e0 : shl .u64 (IntKind.u64.wrap 0) ((fb f : Nat) : Int) = 0 := by rcases h with rfl | rfl <;> decide
  unfold word_shape_join.f sgn
  rw [if_pos (by omega), e0, or_zero64 (by omega)]
  cases s
  · rfl
  · rw [if_pos rfl, if_pos rfl, or_sign h hx]
theorem wsubx {a b : Int} (h1 : -100000000000 ≤ a) (h2 : a ≤ 100000000000) (h3 : -100000000000 ≤ b) (h4 : b ≤ 100000000000) : wrap64 (a - b) = a - b := by unfold wrap64; omega
theorem waddx {a b : Int} (h1 : -100000000000 ≤ a) (h2 : a ≤ 100000000000) (h3 : -100000000000 ≤ b) (h4 : b ≤ 100000000000) : wrap64 (a + b) = a + b := by unfold wrap64; omega
theorem numB_small {l : List Int} (h : Nm l) (hb : V l < 18446744073709551616) : numB l = true := by
  have h1 : l.length ≤ 2 := by
    have : (D (V l)).length ≤ 2 := D_len_lt (by omega)
    rwa [h] at this
  unfold numB
  rw [may_iff.2 ⟨by omega, h⟩, decide_eq_true h1]
  rfl
theorem two_fb {f : Int} (h : isF f) : 2 ^ pr f ≤ 9007199254740992 := by rcases h with rfl | rfl <;> decide
theorem unit_wrap {f : Int} (h : isF f) {n : Nat} {e : Int} (he : lo f ≤ e) (hw : e + (bl n : Nat) ≤ wd f) (hn : bl n ≤ 100) : mx (wrap64 (wrap64 (e + ((bl n : Nat) : Int) - ((fb f : Nat) : Int)) - 1)) (lo f) = unit f n e := by
  have hl := lo_b h
  have hwb := wd_b h
  have hpr := pr_eq h
  have hfb := fb_le h
  have e1 : wrap64 (e + ((bl n : Nat) : Int) - ((fb f : Nat) : Int)) = e + ((bl n : Nat) : Int) - ((fb f : Nat) : Int) := by unfold wrap64; omega
  have e2 : wrap64 (e + ((bl n : Nat) : Int) - ((fb f : Nat) : Int) - 1) = e + ((bl n : Nat) : Int) - ((fb f : Nat) : Int) - 1 := by unfold wrap64; omega
  rw [e1, e2, mx_eq]
  unfold unit
  omega
theorem part_sm {n k : Nat} (h : n ≠ 0) (hb : n * 2 ^ k < 18446744073709551616) : k ≤ 64 := by
  rcases Nat.lt_or_ge 64 k with c | c
  · have h1 : 2 ^ 64 ≤ 2 ^ k := Nat.pow_le_pow_right (by omega) (by omega)
    have h2 : 2 ^ k ≤ n * 2 ^ k := Nat.le_mul_of_pos_left _ (by omega)
    have h3 : (2 : Nat) ^ 64 = 18446744073709551616 := by decide
    omega
  · exact c
theorem word_Of_ev {f : Int} (h : isF f) {s : Bool} {l : List Int} {e : Int} (hd : My s l e) (h0 : l ≠ []) (hn : bl (V l) ≤ pr f) (he : lo f ≤ e) (hw : e + (bl (V l) : Nat) ≤ wd f) :
    Ev (fun k => word_Of.f k f s l e) (((enc f (V l) e + sgn f s : Nat) : Int), 0) := by
  have hV : V l ≠ 0 := fun c => h0 ((V_eq_zero hd.dy.nm).1 c)
  have hl := lo_b h
  have hwb := wd_b h
  have hpr := pr_eq h
  have hfb := fb_le h
  have h2 := two_fb h
  have hbig : V l < 2 ^ pr f := Nat.lt_of_lt_of_le (lt_bl _) (Nat.pow_le_pow_right (by omega) hn)
  have hnum := nat_Num_ev hd.dy.nm.dg (by have := hd.len; omega)
  rw [numB_small hd.dy.nm (by omega), if_pos rfl] at hnum
  obtain ⟨e1, e2⟩ := enc_lt h hn he hw
  have hil := inf_lt h
  have hsp := sg_pos h
  have hplt := part_lt hn he
  have hu := unit_le hn he
  have hul := unit_ge f (V l) e
  have hpf := pw_pos (fb f)
  have hub : unit f (V l) e ≤ 1100 := by omega
  have hA : (unit f (V l) e - lo f).toNat * 2 ^ fb f < 18446744073709551616 := by unfold enc at e1; omega
  have hB : V l * 2 ^ (e - unit f (V l) e).toNat < 18446744073709551616 := by omega
  have hsm : (e - unit f (V l) e).toNat ≤ 64 := by
    have := part_sm (n := V l) (k := (e - unit f (V l) e).toNat) (by omega) hB
    exact this
  have hE : enc f (V l) e < 18446744073709551616 := by omega
  have t7 : IntKind.u64.wrap (((unit f (V l) e - lo f).toNat * 2 ^ fb f + V l * 2 ^ (e - unit f (V l) e).toNat : Nat) : Int) = ((enc f (V l) e : Nat) : Int) := u64 (by omega) (by unfold enc at hE; omega)
  have t8 := u64 (n := (((unit f (V l) e - lo f).toNat : Nat) : Int)) (by omega) (by omega)
  have t9 := shl_u64 hA (by omega)
  have t10 := shl_u64 hB hsm
  have hj := join_eq h (x := enc f (V l) e) (by omega) s
  have hVi : ¬ ((V l : Nat) : Int) = 0 := by omega
  have c1 : ¬ ((bl (V l) : Nat) : Int) > ((fb f : Nat) : Int) + 1 := by omega
  have c2 : ¬ e < lo f := by omega
  have c3 : ¬ e + ((bl (V l) : Nat) : Int) > wd f := by omega
  have c4 : (0 : Int) ≤ (((e - unit f (V l) e).toNat : Nat) : Int) := by omega
  have c5 : (0 : Int) ≤ ((fb f : Nat) : Int) := by omega
  have hm := mo_le h
  have hL := len64_ev (x := ((V l : Nat) : Int)) ⟨by omega, by omega⟩
  rw [Int.toNat_natCast] at hL
  have t1 : wrap64 (e + ((bl (V l) : Nat) : Int)) = e + ((bl (V l) : Nat) : Int) := waddx (by omega) (by omega) (by omega) (by omega)
  have t2 : wrap64 (((fb f : Nat) : Int) + 1) = ((fb f : Nat) : Int) + 1 := by clear t1; exact waddx (by omega) (by omega) (by omega) (by omega)
  have t3 : wrap64 (wrap64 (Int.tdiv ((mo f : Nat) : Int) 2) + 1) = wd f := by
    clear t1 t2
    have e3 : wrap64 (Int.tdiv ((mo f : Nat) : Int) 2) = ((mo f / 2 : Nat) : Int) := w64n (by show (0 : Int) ≤ ((mo f / 2 : Nat) : Int); omega) (by show ((mo f / 2 : Nat) : Int) < _; omega)
    rw [e3, waddx (by clear e3; omega) (by clear e3; omega) (by clear e3; omega) (by clear e3; omega), wd_eq h]
  have t4 := unit_wrap h he hw (by clear t1 t2 t3; omega : bl (V l) ≤ 100)
  have t5 : wrap64 (e - unit f (V l) e) = (((e - unit f (V l) e).toNat : Nat) : Int) := by clear t1 t2 t3 t4; rw [wsubx (by omega) (by omega) (by omega) (by omega)]; omega
  have t6 : wrap64 (unit f (V l) e - lo f) = (((unit f (V l) e - lo f).toNat : Nat) : Int) := by clear t1 t2 t3 t4 t5; rw [wsubx (by omega) (by omega) (by omega) (by omega)]; omega
  have hN := dyad_May_true hd
  have hlow := low_eq h
  have hop := word_open_nil h
  clear e1 e2 hA hB hE hplt hbig h2 hil hsp hm hub hu hul he hw hn hpf hsm
  unfold word_Of.f
  refine Ev.bind (hop) ?_; try dsimp only
  refine ev_neg (fun h => h rfl) ?_
  refine ev_bind (hN) ?_; try dsimp only
  refine ev_neg (by simp) ?_
  refine Ev.bind (hnum) ?_; try dsimp only
  refine Ev.bind (hL) ?_; try dsimp only
  rw [t2]
  refine ev_neg (by simp) (ev_neg c1 (ev_pos hVi ?_))
  refine ev_bind (hlow) ?_; try dsimp only
  refine ev_neg c2 ?_
  rw [t3, t1]
  refine ev_neg c3 (ev_neg hVi ?_)
  refine ev_bind (hlow) ?_; try dsimp only
  rw [t4, t5]
  refine ev_pos c4 ?_
  refine ev_bind (hlow) ?_; try dsimp only
  refine ev_pos c5 ?_
  rw [t6, t8, t9, t10, ← Int.natCast_add, t7]
  refine ev_bind (hj) ?_; try dsimp only
  exact Ev.now _
/-! ### named words -/
theorem named_end {f : Int} (h : isF f) (s : Bool) {x : Nat} (hx : x < sg f) : Ev (fun _ => if s = true then (some (Go.bits .or .u64 (x : Int) (sg f : Int), (0 : Int))) else (some ((x : Int), 0))) (((x + sgn f s : Nat) : Int), 0) := by
  unfold sgn
  cases s
  · (repeat (first | (with_reducible refine ev_pos ?_ ?_; focus (first | omega | assumption | (simp; done) | (simp; omega))) | (with_reducible refine ev_neg ?_ ?_; focus (first | omega | assumption | (simp; done) | (simp; omega)))))
    exact Ev.now _
  · (repeat (first | (with_reducible refine ev_pos ?_ ?_; focus (first | omega | assumption | (simp; done) | (simp; omega))) | (with_reducible refine ev_neg ?_ ?_; focus (first | omega | assumption | (simp; done) | (simp; omega)))))
    rw [or_sign h hx, if_pos rfl]
    exact Ev.now _
theorem word_Zero_ev {f : Int} (h : isF f) (s : Bool) : Ev (fun k => word_Zero.f k f s) (((sgn f s : Nat) : Int), 0) := by
  have hp := sg_pos h
  have hn := named_end h s (x := 0) hp.1
  rw [Nat.zero_add] at hn
  unfold word_Zero.f word_named_word_Zero_1.f
  refine Ev.bind (a := (((sgn f s : Nat) : Int), 0)) ?_ (Ev.now _)
  refine Ev.bind (word_open_nil h) ?_; try dsimp only
  (repeat (first | (with_reducible refine ev_pos ?_ ?_; focus (first | omega | assumption | (simp; done) | (simp; omega))) | (with_reducible refine ev_neg ?_ ?_; focus (first | omega | assumption | (simp; done) | (simp; omega)))))
  exact ev_bind rfl hn
theorem word_Inf_ev {f : Int} (h : isF f) (s : Bool) : Ev (fun k => word_Inf.f k f s) (((mo f * 2 ^ fb f + sgn f s : Nat) : Int), 0) := by
  have hil := inf_lt h
  have hp := pw_pos (fb f)
  have hn := named_end h s (x := mo f * 2 ^ fb f) (by omega)
  unfold word_Inf.f word_named_word_shape_inf.f
  refine Ev.bind (a := (((mo f * 2 ^ fb f + sgn f s : Nat) : Int), 0)) ?_ (Ev.now _)
  refine Ev.bind (word_open_nil h) ?_; try dsimp only
  (repeat (first | (with_reducible refine ev_pos ?_ ?_; focus (first | omega | assumption | (simp; done) | (simp; omega))) | (with_reducible refine ev_neg ?_ ?_; focus (first | omega | assumption | (simp; done) | (simp; omega)))))
  exact ev_bind (inf_eq h) hn
theorem word_Greatest_ev {f : Int} (h : isF f) (s : Bool) : Ev (fun k => word_Greatest.f k f s) (((mo f * 2 ^ fb f - 1 + sgn f s : Nat) : Int), 0) := by
  have hil := inf_lt h
  have hp := pw_pos (fb f)
  have hsp := sg_pos h
  have hm := mo_ge h
  have hq : 1 ≤ mo f * 2 ^ fb f := Nat.mul_pos (by omega) hp
  have hl : word_Greatest_1.f ((fb f : Nat) : Int) ((mo f : Nat) : Int) ((sg f : Nat) : Int) = some ((mo f * 2 ^ fb f - 1 : Nat) : Int) := by
    unfold word_Greatest_1.f
    rw [inf_eq h, Option.bind_some, u64m]
    congr 1
    omega
  have hn := named_end h s (x := mo f * 2 ^ fb f - 1) (by omega)
  unfold word_Greatest.f word_named_word_Greatest_1.f
  refine Ev.bind (a := (((mo f * 2 ^ fb f - 1 + sgn f s : Nat) : Int), 0)) ?_ (Ev.now _)
  refine Ev.bind (word_open_nil h) ?_; try dsimp only
  (repeat (first | (with_reducible refine ev_pos ?_ ?_; focus (first | omega | assumption | (simp; done) | (simp; omega))) | (with_reducible refine ev_neg ?_ ?_; focus (first | omega | assumption | (simp; done) | (simp; omega)))))
  exact ev_bind hl hn
/-- The canonical NaN. -/
def nanW (f : Int) : Nat := mo f * 2 ^ fb f + 2 ^ (fb f - 1)
theorem word_None_ev {f : Int} (h : isF f) : Ev (fun k => word_None.f k f) (((nanW f : Nat) : Int), 0) := by
  have hl : word_shape_none.f ((fb f : Nat) : Int) ((mo f : Nat) : Int) ((sg f : Nat) : Int) = some ((nanW f : Nat) : Int) := by
    rcases h with rfl | rfl <;> decide +kernel
  unfold word_None.f word_named_word_shape_none.f
  refine Ev.bind (a := (((nanW f : Nat) : Int), 0)) ?_ (Ev.now _)
  refine Ev.bind (word_open_nil h) ?_; try dsimp only
  (repeat (first | (with_reducible refine ev_pos ?_ ?_; focus (first | omega | assumption | (simp; done) | (simp; omega))) | (with_reducible refine ev_neg ?_ ?_; focus (first | omega | assumption | (simp; done) | (simp; omega)))))
  refine ev_bind (hl) ?_; try dsimp only
  (repeat (first | (with_reducible refine ev_pos ?_ ?_; focus (first | omega | assumption | (simp; done) | (simp; omega))) | (with_reducible refine ev_neg ?_ ?_; focus (first | omega | assumption | (simp; done) | (simp; omega)))))
  exact Ev.now _
end Go.Proofs.YtclegbgmhimenaaDoor.Eng.K

/- Words of both formats, the reference: fields, class, named words, values. -/
set_option linter.unusedVariables false
set_option linter.unusedSimpArgs false
namespace Go.Proofs.YtclegbgmhimenaaDoor.Eng.K
open Go.RowKit

instance (f : Int) : Decidable (isF f) := inferInstanceAs (Decidable (f = 1 ∨ f = 2))
theorem rIs_eq (f : Int) : cutplaneref03_Is.f f = some (decide (isF f)) := by
  unfold cutplaneref03_Is.f isF
  by_cases h : f = 1
  · rw [if_pos h]; simp [h]
  · rw [if_neg h]; simp [h]
def isM (m : Int) : Prop := 1 ≤ m ∧ m ≤ 5
instance (m : Int) : Decidable (isM m) := inferInstanceAs (Decidable (1 ≤ m ∧ m ≤ 5))
theorem rIsM_eq (m : Int) : cutplaneref04_Is.f m = some (decide (isM m)) := by
  unfold cutplaneref04_Is.f isM
  by_cases h : m ≥ 1
  · rw [if_pos h]; simp [show 1 ≤ m from h]
  · rw [if_neg h]; simp [show ¬ 1 ≤ m from h]
theorem rGood_eq {f : Int} (h : isF f) {w : Nat} (hw : w < 18446744073709551616) : cutplaneref03_Good.f f (w : Int) = some (goodE f w) := by
  unfold cutplaneref03_Good.f goodE
  rw [rIs_eq, decide_eq_true h, Option.bind_some, if_neg (by simp)]
  rcases h with rfl | rfl
  · rw [if_pos rfl]
    by_cases c : w < 2 * sg 1
    · rw [if_neg (by simp [sg] at c; omega), if_pos c]
    · rw [if_pos (by simp [sg] at c; omega), if_neg c]
  · rw [if_neg (by omega), if_pos (by simp [sg]; omega)]
theorem rSign_eq {f : Int} (h : isF f) : cutplaneref03_Sign.f f = some (sg f : Int) := by rcases h with rfl | rfl <;> rfl
theorem rFrac_eq {f : Int} (h : isF f) : cutplaneref03_Frac.f f = some (fb f : Int) := by rcases h with rfl | rfl <;> rfl
theorem rMost_eq {f : Int} (h : isF f) : cutplaneref03_Most.f f = some (mo f : Int) := by rcases h with rfl | rfl <;> rfl
theorem wexpo_le {f : Int} (h : isF f) (w : Nat) : wexpo f w ≤ mo f := by
  have hz : w % sg f < sg f := Nat.mod_lt _ (sg_pos h).1
  have : wexpo f w < mo f + 1 := Nat.div_lt_of_lt_mul (by rw [← sg_big h]; exact hz)
  omega
theorem wfrac_lt (f : Int) (w : Nat) : wfrac f w < 2 ^ fb f := Nat.mod_lt _ (pw_pos _)
theorem w_parts (f : Int) (w : Nat) : w % sg f = wexpo f w * 2 ^ fb f + wfrac f w := by
  unfold wexpo wfrac
  have := Nat.div_add_mod (w % sg f) (2 ^ fb f)
  rw [Nat.mul_comm] at this
  exact this.symm
theorem rSplit_eq {f : Int} (h : isF f) (w : Nat) : cutplaneref03_Split.f f (w : Int) = some (wneg f w, (wexpo f w : Int), (wfrac f w : Int)) := by
  have hp := sg_pos h
  have hpp := pw_pos (fb f)
  have hm := mo_le h
  have hx := wexpo_le h w
  have h52 := fb_le h
  unfold cutplaneref03_Split.f
  rw [rSign_eq h, Option.bind_some, Option.bind_some, if_neg (by omega), rFrac_eq h, Option.bind_some, if_pos (by omega), one_shl h, if_neg (by omega), Option.bind_some, if_pos (by omega), tmod_n, tmod_n, shr_n _ _ (by show fb f ≤ 64; omega)]
  have e : wrap64 ((w % sg f / 2 ^ fb f : Nat) : Int) = (wexpo f w : Int) := by
    show wrap64 ((wexpo f w : Nat) : Int) = _
    exact w64n (by omega) (by omega)
  rw [e]
  have e2 : decide ((w : Int) ≥ (sg f : Int)) = wneg f w := decide_eq_decide.2 (by omega)
  rw [e2]
  rfl
theorem cls_eq {f : Int} (h : isF f) (w : Nat) : cls f w = if wexpo f w = 0 then (if wfrac f w = 0 then 1 else 2) else if wexpo f w < mo f then 3 else if wfrac f w = 0 then 4 else 5 := by
  have h1 := w_parts f w
  have h2 := wfrac_lt f w
  have h3 := wexpo_le h w
  have hpp := pw_pos (fb f)
  have hm := mo_ge h
  unfold cls
  rw [h1]
  generalize wfrac f w = r at *
  generalize wexpo f w = q at *
  generalize 2 ^ fb f = p at *
  by_cases c : q = 0
  · subst c
    simp only [Nat.zero_mul, Nat.zero_add, if_true]
    by_cases c2 : r = 0
    · simp [c2]
    · rw [if_neg c2, if_pos h2, if_neg c2]
  · have h4 : p ≤ q * p := Nat.le_mul_of_pos_left _ (by omega)
    rw [if_neg (by omega), if_neg (by omega), if_neg c]
    by_cases c2 : q < mo f
    · have h5 : (q + 1) * p ≤ mo f * p := Nat.mul_le_mul_right _ c2
      rw [Nat.add_mul, Nat.one_mul] at h5
      rw [if_pos (by omega), if_pos c2]
    · have h5 : q = mo f := by omega
      rw [h5, if_neg (by omega), if_neg (Nat.lt_irrefl _)]
      by_cases c3 : r = 0
      · rw [if_pos (by omega), if_pos c3]
      · rw [if_neg (by omega), if_neg c3]
theorem rClass_eq {f : Int} (h : isF f) (w : Nat) : cutplaneref03_Class.f f (w : Int) = some (cls f w) := by
  unfold cutplaneref03_Class.f
  rw [rSplit_eq h, Option.bind_some, cls_eq h, rMost_eq h]
  generalize wfrac f w = r
  generalize wexpo f w = q
  generalize mo f = m
  simp only [Option.bind_some]
  by_cases c : q = 0
  · rw [if_pos (by omega), if_pos c]
    by_cases c2 : r = 0
    · rw [if_pos (by omega), if_pos c2]
    · rw [if_neg (by omega), if_pos (by omega), if_neg c2]
  · rw [if_neg (by omega), if_neg (by omega), if_neg c]
    by_cases c2 : q < m
    · rw [if_pos (by omega), if_pos c2]
    · rw [if_neg (by omega), if_neg c2]
      by_cases c3 : r = 0
      · rw [if_pos (by omega), if_pos c3]
      · rw [if_neg (by omega), if_neg c3]
theorem rNone_eq {f : Int} (h : isF f) : cutplaneref03_None.f f = some (nanW f : Int) := by
  rcases h with rfl | rfl <;> decide +kernel
theorem wex_b {f : Int} (h : isF f) (w : Nat) : -1074 ≤ wex f w ∧ wex f w ≤ 3000 := by
  have := wexpo_le h w
  have := mo_le h
  have := lo_b h
  unfold wex; split <;> omega
end Go.Proofs.YtclegbgmhimenaaDoor.Eng.K

/- Dyadic numbers told as whole numbers times powers of two: what the operations make of such, the reference. -/
set_option linter.unusedVariables false
set_option linter.unusedSimpArgs false
namespace Go.Proofs.YtclegbgmhimenaaDoor.Eng.K
open Go.RowKit

def mz (z e : Int) : Int := sv (mk z e).1 (V (mk z e).2.1)
def me (z e : Int) : Int := (mk z e).2.2
theorem sv_self (z : Int) : sv (decide (z < 0)) z.natAbs = z := by
  unfold sv
  by_cases h : z < 0
  · rw [decide_eq_true h, if_pos rfl]; omega
  · rw [decide_eq_false h, if_neg (by simp)]; omega
theorem mk_val {z : Int} (h : z ≠ 0) (e : Int) : ∃ j : Nat, z = mz z e * 2 ^ j ∧ me z e = e + (j : Int) ∧ mz z e ≠ 0 ∧ bl (mz z e).natAbs + j = bl z.natAbs := by
  have hn : z.natAbs ≠ 0 := by omega
  have hw := lw_lt hn
  obtain ⟨q, hq⟩ := lw_is hn
  have hd : z.natAbs / 2 ^ lw z.natAbs = 2 * q + 1 := by
    have : z.natAbs / 2 ^ lw z.natAbs = 2 ^ lw z.natAbs * (2 * q + 1) / 2 ^ lw z.natAbs := by rw [← hq]
    rw [this, Nat.mul_div_cancel_left _ (pw_pos _)]
  have hm : mz z e = sv (decide (z < 0)) (z.natAbs / 2 ^ lw z.natAbs) := by
    unfold mz mk; rw [if_neg h]; show sv _ (V (D _)) = _; rw [V_D]
  have he : me z e = e + (lw z.natAbs : Nat) := by unfold me mk; rw [if_neg h]
  refine ⟨lw z.natAbs, ?_, he, ?_, ?_⟩
  · rw [hm, hd]
    have h1 : sv (decide (z < 0)) (2 * q + 1) * 2 ^ lw z.natAbs = sv (decide (z < 0)) ((2 * q + 1) * 2 ^ lw z.natAbs) := by
      unfold sv
      split
      · rw [Int.neg_mul, Int.natCast_mul, Int.natCast_pow]; rfl
      · rw [Int.natCast_mul, Int.natCast_pow]; rfl
    rw [h1, Nat.mul_comm, ← hq, sv_self]
  · rw [hm, hd]; intro h2; have := sv_eq_zero.1 h2; omega
  · rw [hm, sv_abs, bl_down]; omega
theorem me_b (z e : Int) : me z e = 0 ∧ z = 0 ∨ e ≤ me z e ∧ me z e ≤ e + (bl z.natAbs : Nat) := by
  by_cases h : z = 0
  · exact .inl ⟨by rw [h]; rfl, h⟩
  · obtain ⟨j, _, h2, _, h4⟩ := mk_val h e
    exact .inr (by omega)
theorem mz_ne {z : Int} (h : z ≠ 0) (e : Int) : mz z e ≠ 0 := by obtain ⟨j, _, _, h3, _⟩ := mk_val h e; exact h3
theorem top_mz (z e : Int) : top (mz z e) (me z e) = top z e := by
  by_cases h : z = 0
  · subst h; rfl
  · obtain ⟨j, h1, h2, h3, h4⟩ := mk_val h e
    unfold top
    rw [if_neg h, if_neg h3, h2]; omega
end Go.Proofs.YtclegbgmhimenaaDoor.Eng.K

/- Rounding: a size taken to a whole number of units; the reference's way to it. -/
set_option linter.unusedVariables false
set_option linter.unusedSimpArgs false
namespace Go.Proofs.YtclegbgmhimenaaDoor.Eng.K
open Go.RowKit

/-- Does a size go up? -/
def upB (m : Int) (s odd half more : Bool) : Bool :=
  if m = 1 then half && (more || odd) else if m = 2 then half else if m = 4 then !s && (half || more) else if m = 5 then s && (half || more) else false
/-- n in units of 2^k, rounded. -/
def rnd (m : Int) (s : Bool) (n k : Nat) : Nat :=
  n / 2 ^ k + (if upB m s (decide (n / 2 ^ k % 2 = 1)) (decide (2 ^ k ≤ 2 * (n % 2 ^ k))) (decide (2 * (n % 2 ^ k) % 2 ^ k ≠ 0)) = true then 1 else 0)
theorem rnd_exact {m : Int} {s : Bool} {n k : Nat} (h : n % 2 ^ k = 0) : rnd m s n k = n / 2 ^ k := by
  have hp := pw_pos k
  unfold rnd
  rw [h]
  have e1 : decide (2 ^ k ≤ 2 * 0) = false := decide_eq_false (by omega)
  have e2 : decide (2 * 0 % 2 ^ k ≠ 0) = false := decide_eq_false (by simp)
  rw [e1, e2]
  unfold upB
  simp
theorem rnd_zero (m : Int) (s : Bool) (n : Nat) : rnd m s n 0 = n := by
  rw [rnd_exact (by rw [Nat.pow_zero, Nat.mod_one]), Nat.pow_zero, Nat.div_one]
theorem rnd_up (m : Int) (s : Bool) (n k j : Nat) : rnd m s (n * 2 ^ j) (k + j) = rnd m s n k := by
  have hj := pw_pos j
  have hk := pw_pos k
  have e1 : n * 2 ^ j / 2 ^ (k + j) = n / 2 ^ k := by rw [Nat.pow_add, Nat.mul_div_mul_right _ _ hj]
  have e2 : n * 2 ^ j % 2 ^ (k + j) = n % 2 ^ k * 2 ^ j := by rw [Nat.pow_add, Nat.mul_mod_mul_right]
  unfold rnd
  rw [e1, e2]
  have e3 : decide (2 ^ (k + j) ≤ 2 * (n % 2 ^ k * 2 ^ j)) = decide (2 ^ k ≤ 2 * (n % 2 ^ k)) := decide_eq_decide.2 (by
    rw [Nat.pow_add, ← Nat.mul_assoc]
    exact ⟨fun h => Nat.le_of_mul_le_mul_right h hj, fun h => Nat.mul_le_mul_right _ h⟩)
  have e4 : decide (2 * (n % 2 ^ k * 2 ^ j) % 2 ^ (k + j) ≠ 0) = decide (2 * (n % 2 ^ k) % 2 ^ k ≠ 0) := decide_eq_decide.2 (by
    rw [Nat.pow_add, ← Nat.mul_assoc, Nat.mul_mod_mul_right]
    constructor
    · intro h h2; exact h (by rw [h2, Nat.zero_mul])
    · intro h h2
      rcases Nat.mul_eq_zero.1 h2 with h3 | h3
      · exact h h3
      · omega)
  rw [e3, e4]
/-- n 2^e in units of 2^E, rounded. -/
def R (m : Int) (s : Bool) (n : Nat) (e E : Int) : Nat := rnd m s (n * 2 ^ (e - E).toNat) (E - e).toNat
theorem R_up (m : Int) (s : Bool) (n : Nat) (e E : Int) (j : Nat) : R m s (n * 2 ^ j) e E = R m s n (e + j) E := by
  unfold R
  by_cases h : E ≤ e
  · have e1 : (E - e).toNat = 0 := by omega
    have e2 : (E - (e + (j : Int))).toNat = 0 := by omega
    rw [e1, e2, rnd_zero, rnd_zero, Nat.mul_assoc, ← Nat.pow_add]
    congr 2; omega
  · by_cases h2 : E ≤ e + (j : Int)
    · have e1 : (e - E).toNat = 0 := by omega
      have e2 : (E - (e + (j : Int))).toNat = 0 := by omega
      rw [e1, e2, rnd_zero, Nat.pow_zero, Nat.mul_one]
      have e3 : n * 2 ^ j = n * 2 ^ (e + (j : Int) - E).toNat * 2 ^ (E - e).toNat := by
        rw [Nat.mul_assoc, ← Nat.pow_add]; congr 2; omega
      rw [e3]
      have := rnd_up m s (n * 2 ^ (e + (j : Int) - E).toNat) 0 (E - e).toNat
      rw [Nat.zero_add, rnd_zero] at this
      exact this
    · have e1 : (e - E).toNat = 0 := by omega
      have e2 : (e + (j : Int) - E).toNat = 0 := by omega
      have e3 : (E - e).toNat = (E - (e + (j : Int))).toNat + j := by omega
      rw [e1, e2, e3, Nat.pow_zero, Nat.mul_one, Nat.mul_one, rnd_up]
/-- Is nothing lost? -/
def exR (n : Nat) (e E : Int) : Bool := decide (n % 2 ^ (E - e).toNat = 0)
theorem exR_up (n : Nat) (e E : Int) (j : Nat) : exR (n * 2 ^ j) e E = exR n (e + j) E := by
  unfold exR
  apply decide_eq_decide.2
  by_cases h2 : E ≤ e + (j : Int)
  · have e2 : (E - (e + (j : Int))).toNat = 0 := by omega
    rw [e2, Nat.pow_zero, Nat.mod_one]
    have e3 : n * 2 ^ j = n * 2 ^ (j - (E - e).toNat) * 2 ^ (E - e).toNat := by
      rw [Nat.mul_assoc, ← Nat.pow_add]; congr 2; omega
    rw [e3, Nat.mul_mod_left]
  · have e3 : (E - e).toNat = (E - (e + (j : Int))).toNat + j := by omega
    rw [e3, Nat.pow_add, Nat.mul_mod_mul_right]
    constructor
    · intro h
      rcases Nat.mul_eq_zero.1 h with h3 | h3
      · exact h3
      · have := pw_pos j; omega
    · intro h; rw [h, Nat.zero_mul]
theorem bl_succ (q : Nat) : bl (q + 1) ≤ bl q + 1 := by
  refine bl_le_of_lt ?_
  have := lt_bl q
  rw [Nat.pow_succ]
  have := pw_pos (bl q)
  omega
theorem R_bl {m : Int} {s : Bool} {n : Nat} {e E : Int} (hn : n ≠ 0) : (bl (R m s n e E) : Int) ≤ max 1 (e + (bl n : Nat) - E + 1) := by
  have h0 : rnd m s (n * 2 ^ (e - E).toNat) (E - e).toNat ≤ n * 2 ^ (e - E).toNat / 2 ^ (E - e).toNat + 1 := by unfold rnd; split <;> omega
  have h1 := bl_mono h0
  have h2 := bl_succ (n * 2 ^ (e - E).toNat / 2 ^ (E - e).toNat)
  rw [bl_down, bl_up hn] at h2
  unfold R
  by_cases c : E ≤ e
  · have e1 : (E - e).toNat = 0 := by omega
    rw [e1, rnd_zero, bl_up hn]; omega
  · omega
theorem R_mono_top {m : Int} {s : Bool} {n : Nat} {e E : Int} (hn : n ≠ 0) (h : E ≤ e + (bl n : Nat) - 1) : e + (bl n : Nat) ≤ (bl (R m s n e E) : Int) + E ∧ (bl (R m s n e E) : Int) + E ≤ e + (bl n : Nat) + 1 := by
  have h3 := R_bl (m := m) (s := s) (e := e) (E := E) hn
  refine ⟨?_, by omega⟩
  have h0 : n * 2 ^ (e - E).toNat / 2 ^ (E - e).toNat ≤ rnd m s (n * 2 ^ (e - E).toNat) (E - e).toNat := by unfold rnd; split <;> omega
  have h1 := bl_mono h0
  rw [bl_down, bl_up hn] at h1
  unfold R; omega
/-! ### the reference -/
/-- What is taken of z 2^e in units of 2^E. -/
def TK (m : Int) (z e E : Int) : Int := sv (decide (z < 0)) (R m (decide (z < 0)) z.natAbs e E)
theorem TK_exact {m z e E : Int} (h : exR z.natAbs e E = true) : mk (TK m z e E) E = mk z e := by
  unfold TK R
  unfold exR at h
  have h := of_decide_eq_true h
  by_cases c : E ≤ e
  · have e1 : (E - e).toNat = 0 := by omega
    rw [e1, rnd_zero]
    have e2 : sv (decide (z < 0)) (z.natAbs * 2 ^ (e - E).toNat) = z * 2 ^ (e - E).toNat := by
      have := al_sv (decide (z < 0)) z.natAbs e E
      rw [sv_self] at this
      exact this.symm
    rw [e2, mk_up]; congr 1; omega
  · have e1 : (e - E).toNat = 0 := by omega
    rw [e1, Nat.pow_zero, Nat.mul_one, rnd_exact h]
    generalize hk : (E - e).toNat = k at *
    have hE : E = e + (k : Int) := by omega
    rw [hE, ← mk_up]
    congr 1
    have e2 : sv (decide (z < 0)) (z.natAbs / 2 ^ k) * 2 ^ k = sv (decide (z < 0)) (z.natAbs / 2 ^ k * 2 ^ k) := by
      unfold sv; split
      · rw [Int.neg_mul, Int.natCast_mul, Int.natCast_pow]; rfl
      · rw [Int.natCast_mul, Int.natCast_pow]; rfl
    rw [e2, Nat.div_mul_cancel (Nat.dvd_of_mod_eq_zero h), sv_self]
end Go.Proofs.YtclegbgmhimenaaDoor.Eng.K

/- Rounding, the reference: what is taken of a number; the word and the flags. -/
set_option linter.unusedVariables false
set_option linter.unusedSimpArgs false
namespace Go.Proofs.YtclegbgmhimenaaDoor.Eng.K
open Go.RowKit

theorem wneg64 {E : Int} (h1 : -1000000000 ≤ E) (h2 : E ≤ 1000000000) : wrap64 (-E) = -E := by unfold wrap64; omega
end Go.Proofs.YtclegbgmhimenaaDoor.Eng.K

/- Rounding, the reference: the word and the flags. -/
set_option linter.unusedVariables false
set_option linter.unusedSimpArgs false
namespace Go.Proofs.YtclegbgmhimenaaDoor.Eng.K
open Go.RowKit

/-- Towards nought, as the sign stands? -/
def inw (m : Int) (s : Bool) : Bool := decide (m = 3) || (decide (m = 4) && s) || (decide (m = 5) && !s)
def overW (f m : Int) (s : Bool) : Nat := (if inw m s = true then mo f * 2 ^ fb f - 1 else mo f * 2 ^ fb f) + sgn f s
end Go.Proofs.YtclegbgmhimenaaDoor.Eng.K

/- Rounding: what it comes to, and the reference's way to it. -/
set_option linter.unusedVariables false
set_option linter.unusedSimpArgs false
namespace Go.Proofs.YtclegbgmhimenaaDoor.Eng.K
open Go.RowKit

/-- The word of a size, of its one form. -/
def encN (f : Int) (n : Nat) (e : Int) : Nat := enc f (n / 2 ^ lw n) (e + (lw n : Nat))
/-- The word to which a size is rounded, and the flags. -/
def unitR (f : Int) (n : Nat) (e : Int) : Int := max (e + (bl n : Nat) - (pr f : Nat)) (lo f)
def roundS (f m : Int) (s : Bool) (n : Nat) (e : Int) : Int × Int :=
  let q := R m s n e (unitR f n e)
  if (bl q : Int) + unitR f n e > wd f then ((overW f m s : Int), 20)
  else ((((if q = 0 then 0 else encN f q (unitR f n e)) + sgn f s : Nat) : Int),
    if exR n e (unitR f n e) = true then 0
    else if (bl (R m s n e (e + (bl n : Nat) - (pr f : Nat))) : Int) + (e + (bl n : Nat) - (pr f : Nat)) < lo f + (pr f : Nat) then 24 else 16)
theorem R_le {m : Int} {s : Bool} {n : Nat} {e E : Int} {p : Nat} (h : e + (bl n : Nat) - (p : Nat) ≤ E) : R m s n e E ≤ 2 ^ p := by
  have h1 := lt_bl n
  unfold R
  by_cases c : E ≤ e
  · have e1 : (E - e).toNat = 0 := by omega
    rw [e1, rnd_zero]
    have h2 : n * 2 ^ (e - E).toNat < 2 ^ bl n * 2 ^ (e - E).toNat := Nat.mul_lt_mul_of_pos_right h1 (pw_pos _)
    rw [← Nat.pow_add] at h2
    exact Nat.le_trans (Nat.le_of_lt h2) (Nat.pow_le_pow_right (by omega) (by omega))
  · have e1 : (e - E).toNat = 0 := by omega
    rw [e1, Nat.pow_zero, Nat.mul_one]
    have h3 : n / 2 ^ (E - e).toNat < 2 ^ p := by
      rw [Nat.div_lt_iff_lt_mul (pw_pos _), ← Nat.pow_add]
      exact Nat.lt_of_lt_of_le h1 (Nat.pow_le_pow_right (by omega) (by omega))
    unfold rnd
    split <;> omega
theorem odd_bl {q p : Nat} (h0 : q ≠ 0) (h : q ≤ 2 ^ p) : bl (q / 2 ^ lw q) ≤ p ∨ p = 0 := by
  rcases Nat.eq_zero_or_pos p with hp | hp
  · exact .inr hp
  left
  rcases Nat.lt_or_ge q (2 ^ p) with c | c
  · exact bl_le_of_lt (Nat.lt_of_le_of_lt (Nat.div_le_self _ _) c)
  · have e : q = 2 ^ p := by omega
    have hw : lw q = p := lw_eq ⟨0, by rw [e]; omega⟩
    rw [hw, e, Nat.div_self (pw_pos p)]
    have : bl 1 = 1 := by decide
    omega
theorem top_lw {n : Nat} (h : n ≠ 0) : bl (n / 2 ^ lw n) + lw n = bl n := by
  have := lw_lt h
  rw [bl_down]; omega
end Go.Proofs.YtclegbgmhimenaaDoor.Eng.K

/- Rounding, the program: the first bits of a number, and what is behind them. -/
set_option linter.unusedVariables false
set_option linter.unusedSimpArgs false
namespace Go.Proofs.YtclegbgmhimenaaDoor.Eng.K
open Go.RowKit

def bN (b : Bool) : Nat := if b = true then 1 else 0
/-- What is known of a size: its first bits H, and whether something is behind them; d of the bits below the unit. -/
theorem rnd_eq {m : Int} {s : Bool} {n k n' k' : Nat} (h1 : n / 2 ^ k = n' / 2 ^ k') (h2 : 2 ^ k ≤ 2 * (n % 2 ^ k) ↔ 2 ^ k' ≤ 2 * (n' % 2 ^ k')) (h3 : 2 * (n % 2 ^ k) % 2 ^ k = 0 ↔ 2 * (n' % 2 ^ k') % 2 ^ k' = 0) : rnd m s n k = rnd m s n' k' := by
  unfold rnd
  rw [h1, decide_eq_decide.2 h2, decide_eq_decide.2 (show 2 * (n % 2 ^ k) % 2 ^ k ≠ 0 ↔ 2 * (n' % 2 ^ k') % 2 ^ k' ≠ 0 from not_congr h3)]
theorem dbl_mod {x M : Nat} (h : x < M) : 2 * x % M = 0 ↔ x = 0 ∨ 2 * x = M := by
  by_cases c : 2 * x < M
  · rw [Nat.mod_eq_of_lt c]; omega
  · have : 2 * x % M = 2 * x - M := by rw [Nat.mod_eq_sub_mod (by omega), Nat.mod_eq_of_lt (by omega)]
    rw [this]; omega
theorem split_pow {H j r d : Nat} (hr : r < 2 ^ j) : (H * 2 ^ j + r) / 2 ^ (d + j) = H / 2 ^ d ∧ (H * 2 ^ j + r) % 2 ^ (d + j) = H % 2 ^ d * 2 ^ j + r := by
  have := shift_nat (X := H) (P := 2 ^ j) (Q := 2 ^ d) (c := r) (pw_pos j) hr
  rw [Nat.pow_add, Nat.mul_comm (2 ^ d)]
  exact ⟨this.1, by rw [this.2, Nat.mul_comm]⟩
/-- Only whether something is behind counts. -/
theorem rnd_sticky (m : Int) (s : Bool) {H j r d : Nat} (hr : r < 2 ^ j) (hd : 1 ≤ d) : rnd m s (H * 2 ^ j + r) (d + j) = rnd m s (2 * H + bN (decide (r ≠ 0))) (d + 1) := by
  have hb : bN (decide (r ≠ 0)) < 2 ^ 1 := by unfold bN; split <;> omega
  have hb0 : bN (decide (r ≠ 0)) = 0 ↔ r = 0 := by
    unfold bN
    by_cases c : r = 0
    · simp [c]
    · simp [c]
  have e0 : 2 * H + bN (decide (r ≠ 0)) = H * 2 ^ 1 + bN (decide (r ≠ 0)) := by omega
  rw [e0]
  generalize bN (decide (r ≠ 0)) = b at *
  obtain ⟨a1, a2⟩ := split_pow (H := H) (d := d) hr
  obtain ⟨b1, b2⟩ := split_pow (H := H) (d := d) hb
  have hh := Nat.mod_lt H (pw_pos d)
  have hj := pw_pos j
  obtain ⟨d', rfl⟩ : ∃ d', d = d' + 1 := ⟨d - 1, by omega⟩
  have he : 2 ^ (d' + 1) = 2 * 2 ^ d' := by rw [Nat.pow_succ, Nat.mul_comm]
  refine rnd_eq (by rw [a1, b1]) ?_ ?_
  · rw [a2, b2, Nat.pow_add 2 (d' + 1) j, Nat.pow_add 2 (d' + 1) 1, he]
    rw [he] at hh
    generalize H % (2 * 2 ^ d') = h at *
    generalize 2 ^ d' = p at *
    generalize 2 ^ j = q at *
    constructor
    · intro h1
      rcases Nat.lt_or_ge h p with c | c
      · exfalso
        have h2 : (h + 1) * q ≤ p * q := Nat.mul_le_mul_right _ c
        rw [Nat.add_mul, Nat.one_mul] at h2
        rw [Nat.mul_assoc] at h1
        omega
      · omega
    · intro h1
      have h2 : p * q ≤ h * q := Nat.mul_le_mul_right _ (by omega)
      rw [Nat.mul_assoc]; omega
  · have l1 : H % 2 ^ (d' + 1) * 2 ^ j + r < 2 ^ (d' + 1 + j) := by
      rw [Nat.pow_add 2 (d' + 1) j]
      have h2 : (H % 2 ^ (d' + 1) + 1) * 2 ^ j ≤ 2 ^ (d' + 1) * 2 ^ j := Nat.mul_le_mul_right _ hh
      rw [Nat.add_mul, Nat.one_mul] at h2
      omega
    have l2 : H % 2 ^ (d' + 1) * 2 ^ 1 + b < 2 ^ (d' + 1 + 1) := by rw [Nat.pow_add 2 (d' + 1) 1]; omega
    rw [a2, b2, dbl_mod l1, dbl_mod l2, Nat.pow_add 2 (d' + 1) j, Nat.pow_add 2 (d' + 1) 1, he]
    rw [he] at hh
    generalize H % (2 * 2 ^ d') = h at *
    generalize 2 ^ d' = p at *
    generalize 2 ^ j = q at *
    constructor
    · rintro (h1 | h1)
      · have h2 : h * q = 0 := by omega
        rcases Nat.mul_eq_zero.1 h2 with h3 | h3
        · left; have := hb0.2 (by omega); omega
        · omega
      · right
        rw [Nat.mul_assoc] at h1
        rcases Nat.lt_trichotomy h p with c | c | c
        · have h2 : (h + 1) * q ≤ p * q := Nat.mul_le_mul_right _ c
          rw [Nat.add_mul, Nat.one_mul] at h2
          omega
        · subst c
          have := hb0.2 (by omega)
          omega
        · have h2 : (p + 1) * q ≤ h * q := Nat.mul_le_mul_right _ c
          rw [Nat.add_mul, Nat.one_mul] at h2
          omega
    · rintro (h1 | h1)
      · left
        have h2 : h = 0 := by omega
        have h3 := hb0.1 (by omega)
        rw [h2, h3]; omega
      · right
        have h2 : h = p := by omega
        have h3 := hb0.1 (by omega)
        rw [h2, h3, Nat.mul_assoc]; omega
theorem ex_sticky {H j r d : Nat} (hr : r < 2 ^ j) : (H * 2 ^ j + r) % 2 ^ (d + j) = 0 ↔ (2 * H + bN (decide (r ≠ 0))) % 2 ^ (d + 1) = 0 := by
  have hb : bN (decide (r ≠ 0)) < 2 ^ 1 := by unfold bN; split <;> omega
  have hb0 : bN (decide (r ≠ 0)) = 0 ↔ r = 0 := by
    unfold bN
    by_cases c : r = 0
    · simp [c]
    · simp [c]
  have e0 : 2 * H + bN (decide (r ≠ 0)) = H * 2 ^ 1 + bN (decide (r ≠ 0)) := by omega
  rw [e0]
  generalize bN (decide (r ≠ 0)) = b at *
  rw [(split_pow (H := H) (d := d) hr).2, (split_pow (H := H) (d := d) hb).2]
  have hj := pw_pos j
  constructor
  · intro h
    have h2 : H % 2 ^ d * 2 ^ j = 0 := by omega
    rcases Nat.mul_eq_zero.1 h2 with h3 | h3
    · have := hb0.2 (by omega); omega
    · omega
  · intro h
    have h2 : H % 2 ^ d = 0 := by omega
    have h3 := hb0.1 (by omega)
    rw [h2, h3]; omega
/-- In units of 2^E, of first bits H with their top at T. -/
def UP (m : Int) (s : Bool) (H : Nat) (T : Int) (b : Bool) (E : Int) : Nat := rnd m s (2 * H + bN b) ((E - T + 64).toNat + 1)
def XP (H : Nat) (T : Int) (b : Bool) (E : Int) : Bool := decide ((2 * H + bN b) % 2 ^ ((E - T + 64).toNat + 1) = 0)
/-- A number's first 64 bits. -/
def hd64 (n : Nat) : Nat := n * 2 ^ (64 - bl n) / 2 ^ (bl n - 64)
def mr64 (n : Nat) : Bool := decide (n % 2 ^ (bl n - 64) ≠ 0)
theorem hd64_b {n : Nat} (h : n ≠ 0) : 2 ^ 63 ≤ hd64 n ∧ hd64 n < 2 ^ 64 := by
  have h1 := lt_bl n
  have h2 := bl_le h
  have hp := bl_pos h
  unfold hd64
  by_cases c : bl n ≤ 64
  · have e1 : bl n - 64 = 0 := by omega
    rw [e1, Nat.pow_zero, Nat.div_one]
    have h3 : 2 ^ (bl n - 1) * 2 ^ (64 - bl n) ≤ n * 2 ^ (64 - bl n) := Nat.mul_le_mul_right _ h2
    have h4 : n * 2 ^ (64 - bl n) < 2 ^ bl n * 2 ^ (64 - bl n) := Nat.mul_lt_mul_of_pos_right h1 (pw_pos _)
    rw [← Nat.pow_add] at h3 h4
    rw [show bl n - 1 + (64 - bl n) = 63 by omega] at h3
    rw [show bl n + (64 - bl n) = 64 by omega] at h4
    exact ⟨h3, h4⟩
  · have e1 : 64 - bl n = 0 := by omega
    rw [e1, Nat.pow_zero, Nat.mul_one]
    constructor
    · rw [Nat.le_div_iff_mul_le (pw_pos _), ← Nat.pow_add, show 63 + (bl n - 64) = bl n - 1 by omega]; exact h2
    · rw [Nat.div_lt_iff_lt_mul (pw_pos _), ← Nat.pow_add, show 64 + (bl n - 64) = bl n by omega]; exact h1
theorem UP_R (m : Int) (s : Bool) {n : Nat} (hn : n ≠ 0) {e E : Int} (h : 1 ≤ E - (e + (bl n : Nat)) + 64) : UP m s (hd64 n) (e + (bl n : Nat)) (mr64 n) E = R m s n e E ∧ XP (hd64 n) (e + (bl n : Nat)) (mr64 n) E = exR n e E := by
  have hp := bl_pos hn
  generalize hd : (E - (e + (bl n : Nat)) + 64).toNat = d
  by_cases c : 64 ≤ bl n
  · have e1 : 64 - bl n = 0 := by omega
    have hH : hd64 n = n / 2 ^ (bl n - 64) := by unfold hd64; rw [e1, Nat.pow_zero, Nat.mul_one]
    have hsp : n = hd64 n * 2 ^ (bl n - 64) + n % 2 ^ (bl n - 64) := by
      rw [hH]
      have := Nat.div_add_mod n (2 ^ (bl n - 64))
      rw [Nat.mul_comm] at this
      exact this.symm
    have hr := Nat.mod_lt n (pw_pos (bl n - 64))
    have hk : (E - e).toNat = d + (bl n - 64) := by omega
    have hz : (e - E).toNat = 0 := by omega
    have st := rnd_sticky m s (H := hd64 n) (d := d) hr (by omega)
    have ex := ex_sticky (H := hd64 n) (d := d) hr
    rw [← hsp] at st ex
    unfold UP XP R exR mr64
    rw [hd, hk, hz, Nat.pow_zero, Nat.mul_one]
    exact ⟨st.symm, decide_eq_decide.2 ex.symm⟩
  · have e1 : bl n - 64 = 0 := by omega
    have hH : hd64 n = n * 2 ^ (64 - bl n) := by unfold hd64; rw [e1, Nat.pow_zero, Nat.div_one]
    have hm : mr64 n = false := by unfold mr64; rw [e1, Nat.pow_zero, Nat.mod_one]; rfl
    have hR := R_up m s n (e - (64 - bl n : Nat)) E (64 - bl n)
    have hX := exR_up n (e - (64 - bl n : Nat)) E (64 - bl n)
    rw [show e - ((64 - bl n : Nat) : Int) + ((64 - bl n : Nat) : Int) = e by omega, ← hH] at hR hX
    rw [← hR, ← hX, hm]
    unfold UP XP R exR bN
    rw [if_neg (by simp), Nat.add_zero, hd, show (e - ((64 - bl n : Nat) : Int) - E).toNat = 0 by omega, show (E - (e - ((64 - bl n : Nat) : Int))).toNat = d by omega, Nat.pow_zero, Nat.mul_one]
    have := rnd_up m s (hd64 n) d 1
    rw [Nat.pow_one, Nat.mul_comm] at this
    refine ⟨this, ?_⟩
    apply decide_eq_decide.2
    rw [Nat.pow_succ, Nat.mul_comm 2, Nat.mul_mod_mul_right]
    omega
end Go.Proofs.YtclegbgmhimenaaDoor.Eng.K

/- Rounding, the program: units, the word, the flags. -/
set_option linter.unusedVariables false
set_option linter.unusedSimpArgs false
namespace Go.Proofs.YtclegbgmhimenaaDoor.Eng.K
open Go.RowKit

theorem up_eq (m : Int) (s odd half more : Bool) : round_up.f m s odd half more = some (upB m s odd half more) := by
  unfold round_up.f upB
  by_cases c1 : m = 1
  · rw [if_pos c1, if_pos c1]; cases more <;> cases odd <;> cases half <;> rfl
  rw [if_neg c1, if_neg c1]
  by_cases c2 : m = 2
  · rw [if_pos c2, if_pos c2]
  rw [if_neg c2, if_neg c2]
  by_cases c4 : m = 4
  · rw [if_pos c4, if_pos c4]; cases s <;> cases half <;> cases more <;> rfl
  rw [if_neg c4, if_neg c4]
  by_cases c5 : m = 5
  · rw [if_pos c5, if_pos c5]; cases s <;> cases half <;> cases more <;> rfl
  · rw [if_neg c5, if_neg c5]
theorem btoi_eq (b : Bool) : round_btoi.f b = some (bN b : Int) := by cases b <;> rfl
theorem and1 (a : Nat) (ha : a < 18446744073709551616) : Go.bits .and .u64 (a : Int) 1 = ((a % 2 : Nat) : Int) := and_low a 1 ha (by omega)
theorem units_j2 (m : Int) (s : Bool) {W : Nat} (hW : W < 9223372036854775808) (half more : Bool) : Ev (fun k => round_part_units.j2 k m s (W : Int) half more) (((W + bN (upB m s (decide (W % 2 = 1)) half more) : Nat) : Int), !half && !more) := by
  have hb : bN (upB m s (decide (W % 2 = 1)) half more) ≤ 1 := by unfold bN; split <;> omega
  refine ev_step ?_
  simp only [round_part_units.j2]
  rw [and1 W (by omega)]
  have e1 : decide (((W % 2 : Nat) : Int) = 1) = decide (W % 2 = 1) := decide_eq_decide.2 (by omega)
  rw [e1]
  refine ev_bind (up_eq _ _ _ _ _) ?_; try dsimp only
  refine ev_bind (btoi_eq _) ?_; try dsimp only
  rw [← Int.natCast_add, u64_n (by omega)]
  cases half
  · exact ev_pos rfl (Ev.now _)
  · exact ev_neg (by simp) (Ev.now _)
/-- The bits about the unit. -/
theorem bits_about {H d : Nat} (b : Bool) (hd : 1 ≤ d) : (2 * H + bN b) / 2 ^ (d + 1) = H / 2 ^ d ∧
    decide (2 ^ (d + 1) ≤ 2 * ((2 * H + bN b) % 2 ^ (d + 1))) = decide (H / 2 ^ (d - 1) % 2 = 1) ∧
    decide (2 * ((2 * H + bN b) % 2 ^ (d + 1)) % 2 ^ (d + 1) ≠ 0) = (b || decide (H % 2 ^ (d - 1) ≠ 0)) ∧
    decide ((2 * H + bN b) % 2 ^ (d + 1) = 0) = (!decide (H / 2 ^ (d - 1) % 2 = 1) && !(b || decide (H % 2 ^ (d - 1) ≠ 0))) := by
  have hb : bN b < 2 ^ 1 := by unfold bN; split <;> omega
  have hb0 : bN b = 0 ↔ b = false := by unfold bN; cases b <;> simp
  have hb1 : bN b ≤ 1 := by unfold bN; split <;> omega
  obtain ⟨d', rfl⟩ : ∃ d', d = d' + 1 := ⟨d - 1, by omega⟩
  have hs := split_pow (H := H) (d := d' + 1) hb
  have e0 : H * 2 ^ 1 + bN b = 2 * H + bN b := by omega
  rw [e0] at hs
  have hm : H % 2 ^ (d' + 1) = H % 2 ^ d' + 2 ^ d' * (H / 2 ^ d' % 2) := by rw [Nat.pow_succ, Nat.mod_mul]
  have hl := Nat.mod_lt H (pw_pos d')
  have h2 : H / 2 ^ d' % 2 = 0 ∨ H / 2 ^ d' % 2 = 1 := by omega
  have hp : 2 ^ (d' + 1 + 1) = 4 * 2 ^ d' := by rw [Nat.pow_succ, Nat.pow_succ]; omega
  have hx : H % 2 ^ (d' + 1) * 2 ^ 1 + bN b < 4 * 2 ^ d' := by
    rw [hm]; rcases h2 with h | h <;> rw [h] <;> omega
  rw [hs.1, hs.2, hp]
  rw [show d' + 1 - 1 = d' from rfl]
  refine ⟨rfl, ?_, ?_, ?_⟩
  · apply decide_eq_decide.2
    rw [hm]; rcases h2 with h | h <;> rw [h] <;> constructor <;> intro h3 <;> omega
  · have e3 : (b || decide (H % 2 ^ d' ≠ 0)) = decide (¬ (bN b = 0 ∧ H % 2 ^ d' = 0)) := by
      by_cases c : H % 2 ^ d' = 0
      · cases b <;> simp [c, bN]
      · cases b <;> simp [c, bN]
    rw [e3]
    apply decide_eq_decide.2
    apply not_congr
    rw [dbl_mod hx, hm]
    rcases h2 with h | h <;> rw [h] <;> constructor
    · rintro (h3 | h3) <;> omega
    · rintro ⟨h3, h4⟩; left; omega
    · rintro (h3 | h3) <;> omega
    · rintro ⟨h3, h4⟩; right; omega
  · have e3 : (!decide (H / 2 ^ d' % 2 = 1) && !(b || decide (H % 2 ^ d' ≠ 0))) = decide (¬ (H / 2 ^ d' % 2 = 1) ∧ (bN b = 0 ∧ H % 2 ^ d' = 0)) := by
      by_cases c : H % 2 ^ d' = 0
      · rcases h2 with h | h <;> cases b <;> simp [c, h, bN]
      · rcases h2 with h | h <;> cases b <;> simp [c, h, bN]
    rw [e3]
    apply decide_eq_decide.2
    rw [hm]
    rcases h2 with h | h <;> rw [h] <;> constructor <;> intro h3 <;> omega
theorem units_ev (m : Int) (s : Bool) {H : Nat} (hH : 2 ^ 63 ≤ H ∧ H < 2 ^ 64) {T E : Int} (b : Bool) (hd : 1 ≤ E - T + 64) (h1 : -1000000000 ≤ T) (h2 : T ≤ 1000000000) (h3 : -1000000000 ≤ E) (h4 : E ≤ 1000000000) :
    Ev (fun k => round_part_units.f k (H : Int) T b m s E) ((UP m s H T b E : Int), XP H T b E) := by
  have ew : wrap64 (wrap64 (E - T) + 64) = E - T + 64 := by unfold wrap64; omega
  unfold round_part_units.f
  rw [ew]
  clear ew
  obtain ⟨d, hdd⟩ := Int.eq_ofNat_of_zero_le (show 0 ≤ E - T + 64 by omega)
  have hdn : (E - T + 64).toNat = d := by omega
  unfold UP XP
  rw [hdn, hdd]
  rw [hdd] at hd
  clear hdn hdd
  have hd1 : 1 ≤ d := by omega
  have hbb : bN b ≤ 1 := by unfold bN; split <;> omega
  by_cases c : d > 64
  · have hp : 2 ^ 66 ≤ 2 ^ (d + 1) := Nat.pow_le_pow_right (by omega) (by omega)
    have e1 : rnd m s (2 * H + bN b) (d + 1) = bN (upB m s false false true) := by
      unfold rnd
      rw [Nat.div_eq_of_lt (by omega), Nat.mod_eq_of_lt (a := 2 * H + bN b) (by omega), Nat.mod_eq_of_lt (a := 2 * (2 * H + bN b)) (by omega)]
      rw [decide_eq_false (by omega : ¬ (0 % 2 = 1)), decide_eq_false (by omega : ¬ (2 ^ (d + 1) ≤ 2 * (2 * H + bN b))), decide_eq_true (by omega : 2 * (2 * H + bN b) ≠ 0), Nat.zero_add]
      rfl
    have e2 : decide ((2 * H + bN b) % 2 ^ (d + 1) = 0) = false := decide_eq_false (by rw [Nat.mod_eq_of_lt (by omega)]; omega)
    rw [e1, e2]
    refine ev_pos (by omega) ?_
    refine ev_bind (up_eq _ _ _ _ _) ?_; try dsimp only
    refine ev_bind (btoi_eq _) ?_; try dsimp only
    exact Ev.now _
  refine ev_neg (by omega) ?_
  obtain ⟨a1, a2, a3, a4⟩ := bits_about (H := H) b hd1
  have e1 : rnd m s (2 * H + bN b) (d + 1) = H / 2 ^ d + bN (upB m s (decide (H / 2 ^ d % 2 = 1)) (decide (H / 2 ^ (d - 1) % 2 = 1)) (b || decide (H % 2 ^ (d - 1) ≠ 0))) := by
    unfold rnd
    rw [a1, a2, a3]; rfl
  rw [e1, a4]
  clear a1 a2 a3 a4 e1
  have hW : H / 2 ^ d < 9223372036854775808 := by
    rw [Nat.div_lt_iff_lt_mul (pw_pos d)]
    have : 2 ^ 1 ≤ 2 ^ d := Nat.pow_le_pow_right (by omega) hd1
    have := Nat.mul_le_mul_left 9223372036854775808 this
    omega
  have last : Ev (fun k => round_part_units.j1 k m s (H : Int) T b (d : Int) ((H / 2 ^ d : Nat) : Int) false b) (((H / 2 ^ d + bN (upB m s (decide (H / 2 ^ d % 2 = 1)) (decide (H / 2 ^ (d - 1) % 2 = 1)) (b || decide (H % 2 ^ (d - 1) ≠ 0))) : Nat) : Int), (!decide (H / 2 ^ (d - 1) % 2 = 1) && !(b || decide (H % 2 ^ (d - 1) ≠ 0)))) := by
    have ew : wrap64 ((d : Int) - 1) = ((d - 1 : Nat) : Int) := by unfold wrap64; omega
    have hp64 : 2 ^ (d - 1) ≤ 2 ^ 63 := Nat.pow_le_pow_right (by omega) (by omega)
    have hpp := pw_pos (d - 1)
    have hq : H / 2 ^ (d - 1) ≤ H := Nat.div_le_self _ _
    refine ev_step ?_
    simp only [round_part_units.j1]
    rw [ew]
    clear ew
    rw [shr_n H (d - 1) (by show d - 1 ≤ 64; omega), and1 _ (by omega)]
    have e2 : decide (((H / 2 ^ (d - 1) % 2 : Nat) : Int) = 1) = decide (H / 2 ^ (d - 1) % 2 = 1) := decide_eq_decide.2 (by omega)
    have e3 : shl .u64 1 ((d - 1 : Nat) : Int) = ((2 ^ (d - 1) : Nat) : Int) := by
      have := shl_u64 (X := 1) (s := d - 1) (by omega) (by omega)
      rw [Nat.one_mul] at this
      exact this
    have e4 : IntKind.u64.wrap (((2 ^ (d - 1) : Nat) : Int) - 1) = ((2 ^ (d - 1) - 1 : Nat) : Int) := by
      rw [show ((2 ^ (d - 1) : Nat) : Int) - 1 = ((2 ^ (d - 1) - 1 : Nat) : Int) by omega]
      exact u64_n (by omega)
    have e5 : decide (¬ (((H % 2 ^ (d - 1) : Nat) : Int) = 0)) = decide (H % 2 ^ (d - 1) ≠ 0) := decide_eq_decide.2 (by omega)
    rw [e2, e3, e4, and_low H (d - 1) (by omega) (by omega), e5]
    refine ev_pos (by omega) (ev_pos (by omega) ?_)
    cases b
    · refine ev_neg (by simp) (ev_pos (by omega) ?_)
      exact units_j2 m s hW _ _
    · refine ev_pos rfl ?_
      exact units_j2 m s hW _ _
  by_cases c2 : d < 64
  · refine ev_pos (by omega) (ev_pos (by omega) ?_)
    rw [shr_n H d (by show d ≤ 64; omega)]
    exact last
  · have hd64 : d = 64 := by omega
    have e0 : H / 2 ^ d = 0 := Nat.div_eq_of_lt (by rw [hd64]; exact hH.2)
    refine ev_neg (by omega) ?_
    rw [e0] at last ⊢
    exact last
/-! ### the word -/
/-- What rounding comes to, of a top and of what is taken in each unit. -/
def roundG (f m : Int) (s : Bool) (T : Int) (U : Int → Nat) (X : Int → Bool) : Int × Int :=
  if (bl (U (max (T - (pr f : Nat)) (lo f))) : Int) + max (T - (pr f : Nat)) (lo f) > wd f then ((overW f m s : Int), 20)
  else ((((if U (max (T - (pr f : Nat)) (lo f)) = 0 then 0 else encN f (U (max (T - (pr f : Nat)) (lo f))) (max (T - (pr f : Nat)) (lo f))) + sgn f s : Nat) : Int),
    if X (max (T - (pr f : Nat)) (lo f)) = true then 0
    else if (bl (U (T - (pr f : Nat))) : Int) + (T - (pr f : Nat)) < lo f + (pr f : Nat) then 24 else 16)
theorem roundG_S (f m : Int) (s : Bool) (n : Nat) (e : Int) : roundG f m s (e + (bl n : Nat)) (R m s n e) (exR n e) = roundS f m s n e := rfl
theorem roundG_congr {f m : Int} {s : Bool} {T : Int} {U U' : Int → Nat} {X X' : Int → Bool} (h : ∀ E, T - (pr f : Nat) ≤ E → U E = U' E ∧ X E = X' E) : roundG f m s T U X = roundG f m s T U' X' := by
  unfold roundG
  rw [(h (max (T - (pr f : Nat)) (lo f)) (by omega)).1, (h (max (T - (pr f : Nat)) (lo f)) (by omega)).2, (h (T - (pr f : Nat)) (by omega)).1]
theorem formOf_eq {f : Int} (h : isF f) : round_formOf.f f = some ((pr f : Int), lo f, wd f, true) := by rcases h with rfl | rfl <;> rfl
theorem formOf_bad {f : Int} (h : ¬ isF f) : round_formOf.f f = some (0, 0, 0, false) := by
  unfold round_formOf.f
  rw [if_neg (fun e => h (.inl e)), if_neg (fun e => h (.inr e))]
/-- The error of a format or a mode that is none. -/
def fmE (f m : Int) : Int := if isF f then (if isM m then 0 else 5) else 4
theorem open_good {f m : Int} (h : isF f) (hm : isM m) : Ev (fun k => round_open.f k f m []) ((pr f : Int), lo f, wd f, 0) := by
  unfold round_open.f
  unfold isM at hm
  refine ev_bind (formOf_eq h) ?_; try dsimp only
  refine ev_neg (by simp) (ev_neg (by omega) (ev_neg (by omega) ?_))
  refine ev_step ?_
  simp only [round_open.l0]
  exact ev_neg (by simp) (Ev.now _)
theorem open_bad {f m : Int} (h : fmE f m ≠ 0) : ∃ r : Int × Int × Int × Int, r.2.2.2 = fmE f m ∧ Ev (fun k => round_open.f k f m []) r ∧ ∀ d, Ev (fun k => round_open.f k f m [d]) r := by
  unfold fmE at *
  by_cases c : isF f
  · rw [if_pos c] at h ⊢
    by_cases hm : isM m
    · rw [if_pos hm] at h; exact absurd rfl h
    · rw [if_neg hm]
      unfold isM at hm
      have : ∀ l, Ev (fun k => round_open.f k f m l) ((pr f : Int), lo f, wd f, 5) := by
        intro l
        unfold round_open.f
        refine ev_bind (formOf_eq c) ?_; try dsimp only
        refine ev_neg (by simp) ?_
        by_cases c : m < 1
        · exact ev_pos c (Ev.now _)
        · exact ev_neg c (ev_pos (by omega) (Ev.now _))
      exact ⟨((pr f : Int), lo f, wd f, 5), rfl, this _, fun d => this _⟩
  · rw [if_neg c]
    have : ∀ l, Ev (fun k => round_open.f k f m l) (0, 0, 0, 4) := by
      intro l
      unfold round_open.f
      refine ev_bind (formOf_bad c) ?_; try dsimp only
      exact ev_pos (by simp) (Ev.now _)
    exact ⟨(0, 0, 0, 4), rfl, this _, fun d => this _⟩
theorem open_one {f m : Int} (h : isF f) (hm : isM m) {s : Bool} {l : List Int} {e : Int} (hd : My s l e) : Ev (fun k => round_open.f k f m [(s, l, e)]) ((pr f : Int), lo f, wd f, 0) := by
  unfold round_open.f
  unfold isM at hm
  refine ev_bind (formOf_eq h) ?_; try dsimp only
  refine ev_neg (by simp) (ev_neg (by omega) (ev_neg (by omega) ?_))
  have e1 : wrap64 (0 + 1) = 1 := by rw [w64n (by omega) (by omega)]; rfl
  have el : (([(s, l, e)] : List (Bool × List Int × Int)).length : Int) = 1 := rfl
  have r0 : rdT [.b, .is .u32, .i .i64] [(s, l, e)] 0 = (s, l, e) := rfl
  refine ev_step ?_
  simp only [round_open.l0, el, e1, r0]
  clear e1
  refine ev_pos (by omega) (ev_pos (by omega) (ev_pos (by omega) ?_))
  refine ev_bind (dyad_May_true hd) ?_; try dsimp only
  refine ev_neg (by simp) (ev_step ?_)
  simp only [round_open.l0]
  exact ev_neg (by omega) (Ev.now _)
theorem Over_j1 {f : Int} (h : isF f) (s b : Bool) : Ev (fun k => round_Over.j1 k f s b) ((((if b = true then mo f * 2 ^ fb f - 1 else mo f * 2 ^ fb f) + sgn f s : Nat) : Int), 0) := by
  refine ev_step ?_
  simp only [round_Over.j1]
  cases b
  · refine ev_neg (by simp) ?_
    refine Ev.bind (word_Inf_ev h s) ?_; try dsimp only
    exact Ev.now _
  · refine ev_pos rfl ?_
    refine Ev.bind (word_Greatest_ev h s) ?_; try dsimp only
    exact Ev.now _
theorem Over_ev {f m : Int} (h : isF f) (hm : isM m) (s : Bool) : Ev (fun k => round_Over.f k f m s) ((overW f m s : Int), 0) := by
  have j := fun b => Over_j1 h s b
  unfold round_Over.f overW
  refine Ev.bind (open_good h hm) ?_; try dsimp only
  refine ev_neg (by simp) ?_
  by_cases c3 : m = 3
  · refine ev_pos c3 ?_
    have e : inw m s = true := by unfold inw; simp [c3]
    rw [e]; exact j true
  refine ev_neg c3 ?_
  by_cases c4 : m = 4
  · refine ev_pos c4 ?_
    have e : inw m s = s := by unfold inw; simp [c4]
    rw [e]
    cases s
    · exact ev_neg (by simp) (ev_neg (by omega) (j false))
    · exact ev_pos rfl (j true)
  refine ev_neg c4 ?_
  by_cases c5 : m = 5
  · refine ev_pos c5 ?_
    have e : inw m s = !s := by unfold inw; simp [c5]
    rw [e]; exact j (!s)
  · refine ev_neg c5 ?_
    have e : inw m s = false := by unfold inw; simp [c3, c4, c5]
    rw [e]; exact j false
theorem Over_bad {f m : Int} (h : fmE f m ≠ 0) (s : Bool) : Ev (fun k => round_Over.f k f m s) (0, fmE f m) := by
  obtain ⟨r, hr, ho, _⟩ := open_bad h
  unfold round_Over.f
  refine Ev.bind (ho) ?_; try dsimp only
  rw [hr]
  exact ev_pos h (Ev.now _)
end Go.Proofs.YtclegbgmhimenaaDoor.Eng.K

/- Rounding, the program: a number as a word. -/
set_option linter.unusedVariables false
set_option linter.unusedSimpArgs false
namespace Go.Proofs.YtclegbgmhimenaaDoor.Eng.K
open Go.RowKit

theorem word_Of_zero {f : Int} (h : isF f) : Ev (fun k => word_Of.f k f false [] 0) (0, 0) := by
  have hm : My false [] 0 := ⟨⟨Nm_nil, fun _ => ⟨rfl, rfl⟩, fun h => absurd rfl h⟩, by simp, by omega, by omega⟩
  have hn := nat_Num_ev Dg.nil (by simp)
  have e1 : numB [] = true := numB_small Nm_nil (by simp)
  rw [e1, if_pos rfl] at hn
  have hl := len64_ev (x := 0) (by omega)
  have b0 : bl (Int.toNat 0) = 0 := bl_zero
  rw [b0] at hl
  have hfb := fb_le h
  have w1 : wrap64 ((fb f : Int) + 1) = (fb f : Int) + 1 := by unfold wrap64; omega
  unfold word_Of.f
  refine Ev.bind (word_open_nil h) ?_; try dsimp only
  refine ev_neg (fun h => h rfl) ?_
  refine ev_bind (dyad_May_true hm) ?_; try dsimp only
  refine ev_neg (by simp) ?_
  refine Ev.bind (hn) ?_; try dsimp only
  refine Ev.bind (hl) ?_; try dsimp only
  rw [w1]
  clear w1
  refine ev_neg (by simp) (ev_neg (by omega) (ev_neg (by simp) ?_))
  exact ev_pos rfl (Ev.now _)
theorem UP_le {m : Int} {s : Bool} {H : Nat} (hH : H < 2 ^ 64) {T E : Int} {b : Bool} {p : Nat} (hp : p ≤ 64) (h : T - (p : Nat) ≤ E) : UP m s H T b E ≤ 2 ^ p := by
  have hb : bN b ≤ 1 := by unfold bN; split <;> omega
  have h1 : (2 * H + bN b) / 2 ^ ((E - T + 64).toNat + 1) < 2 ^ p := by
    rw [Nat.div_lt_iff_lt_mul (pw_pos _), ← Nat.pow_add]
    have : 2 ^ 65 ≤ 2 ^ (p + ((E - T + 64).toNat + 1)) := Nat.pow_le_pow_right (by omega) (by omega)
    omega
  unfold UP rnd
  split <;> omega
theorem word_of_size {f : Int} (h : isF f) (s : Bool) {q : Nat} {E : Int} (hq : q ≤ 2 ^ pr f) (hE : lo f ≤ E) (hw : (bl q : Int) + E ≤ wd f) (h0 : q ≠ 0) : Ev (fun k => word_Of.f k f (mk (sv s q) E).1 (mk (sv s q) E).2.1 (mk (sv s q) E).2.2) (((encN f q E + sgn f s : Nat) : Int), 0) := by
  have hpr := pr_eq h
  have hfb := fb_le h
  have hl := lo_b h
  have hwb := wd_b h
  have h2 := (odd_bl h0 hq).resolve_right (by omega)
  have h3 := top_lw h0
  have hdy := Dy_mk (sv s q) E
  rw [mk_sv s h0] at hdy ⊢
  have hne : D (q / 2 ^ lw q) ≠ [] := by
    intro hc
    have h1 : V (D (q / 2 ^ lw q)) = 0 := by rw [hc]; rfl
    rw [V_D] at h1
    rw [h1, bl_zero] at h3
    have := lw_lt h0
    omega
  have hmy : My s (D (q / 2 ^ lw q)) (E + (lw q : Nat)) := ⟨hdy, len_bl (by omega), by omega, by omega⟩
  have := word_Of_ev h hmy hne (by rw [V_D]; exact h2) (by omega) (by rw [V_D]; omega)
  rw [V_D] at this
  exact this
theorem part_j1 {f m : Int} (h : isF f) (s : Bool) {H : Nat} (hH : 2 ^ 63 ≤ H ∧ H < 2 ^ 64) {T : Int} (b : Bool) (h1 : -100000000 ≤ T) (h2 : T ≤ 100000000) (x : Bool) (w : Int) :
    Ev (fun k => round_part_word.j1 k m s (H : Int) T b (pr f : Int) (lo f) (wd f) x w) (w, if x = true then 0 else if (bl (UP m s H T b (T - (pr f : Nat))) : Int) + (T - (pr f : Nat)) < lo f + (pr f : Nat) then 24 else 16) := by
  have hpr := pr_eq h
  have hfb := fb_le h
  have hl := lo_b h
  have hu := units_ev m s hH (T := T) (E := T - (pr f : Nat)) b (by omega) (by omega) (by omega) (by omega) (by omega)
  have hle := UP_le (m := m) (s := s) (H := H) (b := b) hH.2 (T := T) (E := T - (pr f : Nat)) (p := pr f) (by omega) (Int.le_refl _)
  have h2f := two_fb h
  have hlen := len64_ev (x := (UP m s H T b (T - (pr f : Nat)) : Int)) ⟨by omega, by omega⟩
  rw [Int.toNat_natCast] at hlen
  have hb : bl (UP m s H T b (T - (pr f : Nat))) ≤ 64 := bl_le_of_lt (by omega)
  refine ev_step ?_
  simp only [round_part_word.j1]
  cases x
  · refine ev_neg (by simp) ?_
    have w0 : wrap64 (T - ((pr f : Nat) : Int)) = T - ((pr f : Nat) : Int) := by unfold wrap64; omega
    rw [w0]
    clear w0
    refine Ev.bind (hu) ?_; try dsimp only
    refine Ev.bind (hlen) ?_; try dsimp only
    have w1 : wrap64 (wrap64 ((bl (UP m s H T b (T - (pr f : Nat))) : Int) + T) - ((pr f : Nat) : Int)) = (bl (UP m s H T b (T - (pr f : Nat))) : Int) + (T - (pr f : Nat)) := by unfold wrap64; omega
    have w2 : wrap64 (lo f + ((pr f : Nat) : Int)) = lo f + ((pr f : Nat) : Int) := by clear w1; unfold wrap64; omega
    rw [w1, w2]
    clear w1 w2
    rw [if_neg Bool.false_ne_true]
    by_cases c : (bl (UP m s H T b (T - (pr f : Nat))) : Int) + (T - (pr f : Nat)) < lo f + (pr f : Nat)
    · exact ev_pos c (ev_eq (Ev.now _) (by rw [if_pos c]))
    · exact ev_neg c (ev_eq (Ev.now _) (by rw [if_neg c]))
  · exact ev_pos rfl (Ev.now _)
theorem part_word_ev {f m : Int} (h : isF f) (hm : isM m) (s : Bool) {H : Nat} (hH : 2 ^ 63 ≤ H ∧ H < 2 ^ 64) {T : Int} (b : Bool) (h1 : -100000000 ≤ T) (h2 : T ≤ 100000000) :
    Ev (fun k => round_part_word.f k (H : Int) T b f (pr f : Int) (lo f) (wd f) m s) (roundG f m s T (UP m s H T b) (XP H T b)) := by
  have hpr := pr_eq h
  have hfb := fb_le h
  have hl := lo_b h
  have hwb := wd_b h
  have h2f := two_fb h
  obtain ⟨E, hE⟩ : ∃ E, E = max (T - (pr f : Nat)) (lo f) := ⟨_, rfl⟩
  have hu := units_ev m s hH (T := T) (E := E) b (by omega) (by omega) (by omega) (by omega) (by omega)
  have hle := UP_le (m := m) (s := s) (H := H) (b := b) hH.2 (T := T) (E := E) (p := pr f) (by omega) (by omega)
  have hlen := len64_ev (x := (UP m s H T b E : Int)) ⟨by omega, by omega⟩
  rw [Int.toNat_natCast] at hlen
  have hb : bl (UP m s H T b E) ≤ 64 := bl_le_of_lt (by omega)
  have ho := nat_Of_ev (n := (UP m s H T b E : Int)) (by omega) (by omega)
  rw [Int.toNat_natCast] at ho
  have hj := part_j1 (m := m) h s hH (T := T) b h1 h2 (XP H T b E)
  have hwos := word_of_size h s (q := UP m s H T b E) (E := E) hle (by omega)
  have em : mx (wrap64 (T - ((pr f : Nat) : Int))) (lo f) = E := by rw [mx_eq, wsubx (by omega) (by omega) (by omega) (by omega), hE]
  unfold round_part_word.f roundG
  rw [em, ← hE]
  clear em
  refine Ev.bind (hu) ?_; try dsimp only
  refine Ev.bind (hlen) ?_; try dsimp only
  have w1 : wrap64 ((bl (UP m s H T b E) : Int) + E) = (bl (UP m s H T b E) : Int) + E := waddx (by omega) (by omega) (by omega) (by omega)
  rw [w1]
  clear w1
  by_cases c : (bl (UP m s H T b E) : Int) + E > wd f
  · rw [if_pos c]
    refine ev_pos c ?_
    refine Ev.bind (Over_ev h hm s) ?_; try dsimp only
    exact Ev.now _
  rw [if_neg c]
  refine ev_neg c ?_
  refine Ev.bind (ho) ?_; try dsimp only
  have m1 := dyad_Make_ev s (Nm_D (UP m s H T b E)) (len_bl (by omega)) E
  rw [V_D, makeR_ok3 (by omega) (by omega)] at m1
  refine Ev.bind (m1) ?_; try dsimp only
  by_cases c0 : UP m s H T b E = 0
  · have hz := word_Of_zero h
    rw [if_pos c0]
    rw [c0, sv_zero, mk_zero]
    refine Ev.bind (hz) ?_; try dsimp only
    refine ev_pos rfl ?_
    refine Ev.bind (word_Zero_ev h s) ?_; try dsimp only
    rw [Nat.zero_add]
    exact hj _
  · rw [if_neg c0]
    refine Ev.bind (hwos (by omega) c0) ?_; try dsimp only
    refine ev_neg (by omega) ?_
    exact hj _
theorem partOf_ev {s : Bool} {l : List Int} {e : Int} (hd : My s l e) (h0 : V l ≠ 0) : Ev (fun k => round_partOf.f k s l e) ((hd64 (V l) : Int), e + (bl (V l) : Nat), mr64 (V l)) := by
  have hlen := hd.len
  have hb := bl_list hd.dy.nm.dg
  have hlo := hd.lo
  have hhi := hd.hi
  have hH := hd64_b h0
  unfold round_partOf.f
  refine Ev.bind (nat_Len_ev hd.dy.nm hlen) ?_; try dsimp only
  have w1 : wrap64 (e + ((bl (V l) : Nat) : Int)) = e + ((bl (V l) : Nat) : Int) := waddx (by omega) (by omega) (by omega) (by omega)
  have w2 : wrap64 (64 - ((bl (V l) : Nat) : Int)) = 64 - ((bl (V l) : Nat) : Int) := by clear w1; unfold wrap64; omega
  rw [w1, w2]
  clear w1 w2
  have hs := nat_Shift_ev hd.dy.nm hlen (64 - ((bl (V l) : Nat) : Int))
  have es : shiftR (V l) (64 - ((bl (V l) : Nat) : Int)) = (D (hd64 (V l)), mr64 (V l), 0) := by
    by_cases c : bl (V l) ≤ 64
    · have e1 : 64 - ((bl (V l) : Nat) : Int) = ((64 - bl (V l) : Nat) : Int) := by omega
      have e2 : bl (V l) - 64 = 0 := by omega
      rw [e1, shiftR_up (by omega)]
      unfold hd64 mr64
      rw [e2, Nat.pow_zero, Nat.div_one, Nat.mod_one]; rfl
    · have e1 : 64 - ((bl (V l) : Nat) : Int) = -((bl (V l) - 64 : Nat) : Int) := by omega
      have e2 : 64 - bl (V l) = 0 := by omega
      rw [e1, shiftR_down (by omega) (by omega)]
      unfold hd64 mr64
      rw [e2, Nat.pow_zero, Nat.mul_one]
  rw [es] at hs
  refine Ev.bind (hs) ?_; try dsimp only
  have hl2 : (D (hd64 (V l))).length ≤ 2 := D_lt (by omega)
  have hn := nat_Num_ev (Dg_D (hd64 (V l))) (by omega)
  rw [numB_small (Nm_D _) (by rw [V_D]; omega), if_pos rfl, V_D] at hn
  refine Ev.bind (hn) ?_; try dsimp only
  exact Ev.now _
theorem Round_ev {f m : Int} (h : isF f) (hm : isM m) {s : Bool} {l : List Int} {e : Int} (hd : My s l e) (h0 : V l ≠ 0) : Ev (fun k => round_Round.f k f m s l e) ((roundS f m s (V l) e).1, (roundS f m s (V l) e).2, 0) := by
  have hb := bl_list hd.dy.nm.dg
  have hlen := hd.len
  have hlo := hd.lo
  have hhi := hd.hi
  have hpr := pr_eq h
  have hfb := fb_le h
  have hp := part_word_ev h hm s (hd64_b h0) (T := e + (bl (V l) : Nat)) (mr64 (V l)) (by omega) (by omega)
  have hg : roundG f m s (e + (bl (V l) : Nat)) (UP m s (hd64 (V l)) (e + (bl (V l) : Nat)) (mr64 (V l))) (XP (hd64 (V l)) (e + (bl (V l) : Nat)) (mr64 (V l))) = roundS f m s (V l) e := by
    rw [← roundG_S]
    refine roundG_congr ?_
    intro E hE
    exact UP_R m s h0 (by omega)
  rw [hg] at hp
  unfold round_Round.f
  refine Ev.bind (open_one h hm hd) ?_; try dsimp only
  refine ev_neg (by simp) ?_
  refine Ev.bind (dyad_Sign_ev hd) ?_; try dsimp only
  refine ev_neg (by rw [sv_sign h0]; split <;> omega) ?_
  refine Ev.bind (partOf_ev hd h0) ?_; try dsimp only
  refine Ev.bind (hp) ?_; try dsimp only
  exact Ev.now _
end Go.Proofs.YtclegbgmhimenaaDoor.Eng.K

/- Words of one format as words of another; what is asked ahead. -/
set_option linter.unusedVariables false
set_option linter.unusedSimpArgs false
namespace Go.Proofs.YtclegbgmhimenaaDoor.Eng.K
open Go.RowKit

theorem roundS_up (f m : Int) (s : Bool) {n : Nat} (hn : n ≠ 0) (e : Int) (j : Nat) : roundS f m s (n * 2 ^ j) e = roundS f m s n (e + j) := by
  have hu : unitR f (n * 2 ^ j) e = unitR f n (e + j) := by unfold unitR; rw [bl_up hn]; congr 1; omega
  have hb : e + (bl (n * 2 ^ j) : Nat) - (pr f : Nat) = e + j + (bl n : Nat) - (pr f : Nat) := by rw [bl_up hn]; omega
  unfold roundS
  simp only [hu, hb, R_up, exR_up]
theorem roundS_mk (f m : Int) {z : Int} (hz : z ≠ 0) (e : Int) : roundS f m (mk z e).1 (V (mk z e).2.1) (mk z e).2.2 = roundS f m (decide (z < 0)) z.natAbs e := by
  have hza : z.natAbs ≠ 0 := by omega
  obtain ⟨q, hq⟩ := lw_is hza
  have hd : z.natAbs / 2 ^ lw z.natAbs = 2 * q + 1 := by
    have : z.natAbs / 2 ^ lw z.natAbs = 2 ^ lw z.natAbs * (2 * q + 1) / 2 ^ lw z.natAbs := by rw [← hq]
    rw [this, Nat.mul_div_cancel_left _ (pw_pos _)]
  unfold mk
  rw [if_neg hz]
  show roundS f m (decide (z < 0)) (V (D (z.natAbs / 2 ^ lw z.natAbs))) (e + (lw z.natAbs : Nat)) = _
  rw [V_D, ← roundS_up f m _ (by rw [hd]; omega), hd]
  congr 1
  rw [Nat.mul_comm]; exact hq.symm
/-- Not too long, not too far out, for the program. -/
structure Mg (z e : Int) : Prop where
  b : bl z.natAbs ≤ 131072
  lo : -16777216 ≤ e
  hi : e + (bl z.natAbs : Nat) ≤ 16777216
theorem my_of {z e : Int} (h : Mg z e) : My (mk z e).1 (mk z e).2.1 (mk z e).2.2 := My_mk h.lo h.hi h.b
theorem V_mk_ne {z : Int} (hz : z ≠ 0) (e : Int) : V (mk z e).2.1 ≠ 0 := by
  have := mz_ne hz e
  intro h
  unfold mz at this
  rw [h, sv_zero] at this
  exact this rfl
theorem Round_mk {f m : Int} (h : isF f) (hm : isM m) {z e : Int} (hz : z ≠ 0) (hg : Mg z e) : Ev (fun k => round_Round.f k f m (mk z e).1 (mk z e).2.1 (mk z e).2.2) ((roundS f m (decide (z < 0)) z.natAbs e).1, (roundS f m (decide (z < 0)) z.natAbs e).2, 0) := by
  have := Round_ev h hm (my_of hg) (V_mk_ne hz e)
  rw [roundS_mk f m hz e] at this
  exact this
/-! ### words that are numbers -/
theorem cls_num {f : Int} (h : isF f) {w : Nat} (h1 : cls f w ≠ 1) (h2 : cls f w < 4) : wmag f w ≠ 0 := by
  rw [cls_eq h] at h1 h2
  have hp := pw_pos (fb f)
  unfold wmag
  by_cases c : wexpo f w = 0
  · rw [if_pos c] at h1 h2 ⊢
    intro h3
    rw [if_pos h3] at h1
    exact h1 rfl
  · rw [if_neg c]; omega
theorem cls_b {f : Int} (h : isF f) (w : Nat) : 1 ≤ cls f w ∧ cls f w ≤ 5 := by
  rw [cls_eq h]; split
  · split <;> omega
  · split
    · omega
    · split <;> omega
theorem wmag_bl {f : Int} (h : isF f) (w : Nat) : bl (wmag f w) ≤ pr f := by
  have h1 := wfrac_lt f w
  have h2 := pr_eq h
  refine bl_le_of_lt ?_
  rw [h2, Nat.pow_succ]
  unfold wmag; split <;> omega
theorem w_sv {s : Bool} {n : Nat} (h : n ≠ 0) : decide (sv s n < 0) = s ∧ (sv s n).natAbs = n ∧ sv s n ≠ 0 := ⟨sv_neg h, sv_abs s n, fun h2 => h (sv_eq_zero.1 h2)⟩
theorem w_mg {f : Int} (h : isF f) (w : Nat) : Mg (sv (wneg f w) (wmag f w)) (wex f w) := by
  have h1 := wmag_bl h w
  have h2 := wex_b h w
  have h3 := pr_eq h
  have h4 := fb_le h
  refine ⟨by rw [sv_abs]; omega, by omega, by rw [sv_abs]; omega⟩
/-! ### errors ahead -/
theorem mode_ev (f m : Int) : Ev (fun k => conv_mode.f k f m) (fmE f m) := by
  unfold conv_mode.f
  by_cases h : fmE f m = 0
  · have hf : isF f := by unfold fmE at h; split at h; · assumption
                          · omega
    have hm : isM m := by unfold fmE at h; rw [if_pos hf] at h; split at h; · assumption
                          · omega
    refine Ev.bind (Over_ev hf hm false) ?_; try dsimp only
    exact ev_eq (Ev.now _) h.symm
  · refine Ev.bind (Over_bad h false) ?_; try dsimp only
    exact Ev.now _
theorem fmE_zero {f m : Int} : fmE f m = 0 ↔ isF f ∧ isM m := by
  unfold fmE
  by_cases h : isF f
  · rw [if_pos h]
    by_cases hm : isM m
    · rw [if_pos hm]; exact ⟨fun _ => ⟨h, hm⟩, fun _ => rfl⟩
    · rw [if_neg hm]; exact ⟨fun h => by omega, fun h => absurd h.2 hm⟩
  · rw [if_neg h]; exact ⟨fun h => by omega, fun k => absurd k.1 h⟩
/-- The error of a format, a mode, a word. -/
def opE (f m : Int) (w : Nat) : Int := if fmE f m ≠ 0 then fmE f m else goodE f w
theorem conv_open_good {f m : Int} (h : isF f) (hm : isM m) {w : Nat} (hw : w < 2 * sg f) : Ev (fun k => conv_open.f k f m (w : Int)) (cls f w, wneg f w, 0) := by
  unfold conv_open.f
  have he := mode_ev f m
  rw [fmE_zero.2 ⟨h, hm⟩] at he
  refine Ev.bind (he) ?_; try dsimp only
  refine ev_neg (by simp) ?_
  refine Ev.bind (word_Class_ev h hw) ?_; try dsimp only
  refine Ev.bind (word_Split_ev h hw) ?_; try dsimp only
  exact Ev.now _
theorem opE_zero {f m : Int} {w : Nat} : opE f m w = 0 ↔ isF f ∧ isM m ∧ w < 2 * sg f := by
  unfold opE
  by_cases c : fmE f m = 0
  · obtain ⟨h, hm⟩ := fmE_zero.1 c
    rw [if_neg (fun h => h c)]
    unfold goodE
    by_cases c2 : w < 2 * sg f
    · rw [if_pos c2]; exact ⟨fun _ => ⟨h, hm, c2⟩, fun _ => rfl⟩
    · rw [if_neg c2]; exact ⟨fun h => by omega, fun h => absurd h.2.2 c2⟩
  · rw [if_pos c]
    exact ⟨fun h => absurd h c, fun h => absurd (fmE_zero.2 ⟨h.1, h.2.1⟩) c⟩
theorem opens_one (f m : Int) {w : Nat} (hw : w < 18446744073709551616) : Ev (fun k => cutplanelaw06_opens.f k f m [(w : Int)]) (opE f m w) := by
  unfold cutplanelaw06_opens.f opE fmE
  refine ev_bind (rIs_eq f) ?_; try dsimp only
  by_cases h : isF f
  · rw [decide_eq_true h, if_pos h]
    refine ev_neg (by simp) ?_
    refine ev_bind (rIsM_eq m) ?_; try dsimp only
    by_cases hm : isM m
    · rw [decide_eq_true hm, if_pos hm, if_neg (by omega)]
      refine ev_neg (by simp) ?_
      have e1 : wrap64 (0 + 1) = 1 := by rw [w64n (by omega) (by omega)]; rfl
      have el : (([(w : Int)] : List Int).length : Int) = 1 := rfl
      have er : rd [(w : Int)] 0 = (w : Int) := rfl
      refine ev_step ?_
      simp only [cutplanelaw06_opens.l0, el, er, e1]
      clear e1
      refine ev_pos (by omega) (ev_pos (by omega) (ev_pos (by omega) ?_))
      refine ev_bind (rGood_eq h hw) ?_; try dsimp only
      by_cases c : goodE f w = 0
      · refine ev_neg (fun h => h c) (ev_step ?_)
        simp only [cutplanelaw06_opens.l0]
        rw [c]
        exact ev_neg (by omega) (Ev.now _)
      · refine ev_pos c ?_
        have : goodE f w = 6 := by unfold goodE at c ⊢; split at c; · exact absurd rfl c
                                   · rw [if_neg (by assumption)]
        rw [this]
        exact Ev.now _
    · rw [decide_eq_false hm, if_neg hm, if_pos (by omega)]
      exact ev_pos (by simp) (Ev.now _)
  · rw [decide_eq_false h, if_neg h, if_pos (by omega)]
    exact ev_pos (by simp) (Ev.now _)
/-! ### To -/
def toS (f g m : Int) (w : Nat) : Int × Int :=
  if cls f w = 5 then ((nanW g : Int), 0) else if cls f w = 4 then (((mo g * 2 ^ fb g + sgn g (wneg f w) : Nat) : Int), 0) else if cls f w = 1 then ((sgn g (wneg f w) : Int), 0)
  else roundS g m (wneg f w) (wmag f w) (wex f w)
theorem conv_To_ev {f g m : Int} (h : isF f) (hg : isF g) (hm : isM m) {w : Nat} (hw : w < 2 * sg f) : Ev (fun k => conv_To.f k f g m (w : Int)) ((toS f g m w).1, (toS f g m w).2, 0) := by
  unfold conv_To.f toS
  have he := mode_ev g m
  rw [fmE_zero.2 ⟨hg, hm⟩] at he
  refine Ev.bind (he) ?_; try dsimp only
  refine ev_neg (by omega) ?_
  refine Ev.bind (conv_open_good h hm hw) ?_; try dsimp only
  refine ev_neg (by simp) ?_
  by_cases c5 : cls f w = 5
  · rw [if_pos c5]
    refine ev_pos c5 ?_
    refine Ev.bind (word_None_ev hg) ?_; try dsimp only
    exact Ev.now _
  rw [if_neg c5]
  refine ev_neg c5 ?_
  by_cases c4 : cls f w = 4
  · rw [if_pos c4]
    refine ev_pos c4 ?_
    refine Ev.bind (word_Inf_ev hg (wneg f w)) ?_; try dsimp only
    exact Ev.now _
  rw [if_neg c4]
  refine ev_neg c4 ?_
  by_cases c1 : cls f w = 1
  · rw [if_pos c1]
    refine ev_pos c1 ?_
    refine Ev.bind (word_Zero_ev hg (wneg f w)) ?_; try dsimp only
    exact Ev.now _
  rw [if_neg c1]
  refine ev_neg c1 ?_
  have hb := cls_b h w
  obtain ⟨a1, a2, a3⟩ := w_sv (s := wneg f w) (cls_num h c1 (by omega))
  refine Ev.bind (word_Value_ev h hw (by omega)) ?_; try dsimp only
  have hr := Round_mk hg hm a3 (w_mg h w)
  rw [a1, a2] at hr
  refine Ev.bind (hr) ?_; try dsimp only
  exact Ev.now _
end Go.Proofs.YtclegbgmhimenaaDoor.Eng.K

/- Remainders: the program's and the reference's quotients to the nearest even whole number. -/
set_option linter.unusedVariables false
set_option linter.unusedSimpArgs false
namespace Go.Proofs.YtclegbgmhimenaaDoor.Eng.K
open Go.RowKit

/-- The whole number nearest to X / Y, of two the even one; what is left of X. -/
def rnE (X Y : Nat) : Nat := X / Y + (if 2 * (X % Y) > Y ∨ (2 * (X % Y) = Y ∧ X / Y % 2 = 1) then 1 else 0)
def remI (X Y : Nat) : Int := (X : Int) - (rnE X Y : Int) * (Y : Int)
def sI (s : Bool) (i : Int) : Int := if s = true then -i else i
theorem remI_cases (X Y : Nat) (hY : 0 < Y) : (rnE X Y = X / Y ∧ remI X Y = ((X % Y : Nat) : Int) ∧ 2 * (X % Y) ≤ Y) ∨ (rnE X Y = X / Y + 1 ∧ remI X Y = -((Y - X % Y : Nat) : Int) ∧ Y ≤ 2 * (X % Y) ∧ X % Y < Y) := by
  have h1 := Nat.div_add_mod X Y
  have h2 := Nat.mod_lt X hY
  unfold remI
  by_cases c : 2 * (X % Y) > Y ∨ (2 * (X % Y) = Y ∧ X / Y % 2 = 1)
  · right
    have e : rnE X Y = X / Y + 1 := by unfold rnE; rw [if_pos c]
    refine ⟨e, ?_, by omega, h2⟩
    rw [e, Int.natCast_add, Int.add_mul, ← Int.natCast_mul, Nat.mul_comm (X / Y) Y]
    generalize Y * (X / Y) = w at *
    omega
  · left
    have e : rnE X Y = X / Y := by unfold rnE; rw [if_neg c, Nat.add_zero]
    refine ⟨e, ?_, by omega⟩
    rw [e, ← Int.natCast_mul, Nat.mul_comm (X / Y) Y]
    generalize Y * (X / Y) = w at *
    omega
theorem remI_le (X Y : Nat) (hY : 0 < Y) : (remI X Y).natAbs ≤ X ∧ 2 * (remI X Y).natAbs ≤ Y := by
  have h1 := Nat.mod_le X Y
  have h3 := Nat.div_add_mod X Y
  rcases remI_cases X Y hY with ⟨_, h, h2⟩ | ⟨_, h, h2, h4⟩
  · rw [h]; omega
  · rw [h]; omega
theorem sv_sI (s : Bool) (n : Nat) : sv s n = sI s (n : Int) := rfl
theorem sI_neg (s : Bool) (i : Int) : sI s (-i) = -sI s i := by unfold sI; split <;> omega
theorem left_ev {sx sy : Bool} {lx ly : List Int} {ex ey : Int} (hx : Dy sx lx ex) (hy : Dy sy ly ey) (x0 : V lx ≠ 0) (y0 : V ly ≠ 0) (bx : bl (V lx) ≤ 64) (bY : bl (V ly) ≤ 64) (h1 : -5000 ≤ ex) (h2 : ex ≤ 5000) (h3 : -5000 ≤ ey) (h4 : ey ≤ 5000) :
    Ev (fun k => conv_left.f k sx lx ex sy ly ey) (mk (sI sx (remI (V lx * 2 ^ (ex - min ex ey).toNat) (V ly * 2 ^ (ey - min ex ey).toNat))) (min ex ey)) := by
  have lenx : lx.length ≤ 2 := by have := len_bl (x := V lx) (k := 2) (by omega); rwa [hx.nm] at this
  have leny : ly.length ≤ 2 := by have := len_bl (x := V ly) (k := 2) (by omega); rwa [hy.nm] at this
  obtain ⟨u, hu⟩ : ∃ u, u = min ex ey := ⟨_, rfl⟩
  obtain ⟨a, ha⟩ : ∃ a : Nat, a = (ex - u).toNat := ⟨_, rfl⟩
  obtain ⟨b, hb⟩ : ∃ b : Nat, b = (ey - u).toNat := ⟨_, rfl⟩
  have hs1 := nat_Shift_ev hx.nm (by omega) (a : Int)
  rw [shiftR_up (by omega)] at hs1
  have hs2 := nat_Shift_ev hy.nm (by omega) (b : Int)
  rw [shiftR_up (by omega)] at hs2
  have w1 : wrap64 (ex - mn ex ey) = (a : Int) := by rw [mn_eq, ← hu]; unfold wrap64; omega
  have w2 : wrap64 (ey - mn ex ey) = (b : Int) := by clear w1; rw [mn_eq, ← hu]; unfold wrap64; omega
  have b1 := bl_up x0 a
  have b2 := bl_up y0 b
  have p1 := Nat.mul_pos (Nat.pos_of_ne_zero x0) (pw_pos a)
  have p2 := Nat.mul_pos (Nat.pos_of_ne_zero y0) (pw_pos b)
  unfold conv_left.f
  rw [w1, w2, mn_eq, ← hu, ← ha, ← hb]
  clear w1 w2
  have ba : a ≤ 10000 := by omega
  have bb : b ≤ 10000 := by omega
  have bu : -5000 ≤ u ∧ u ≤ 5000 := by omega
  clear ha hb hu h1 h2 h3 h4
  generalize hX : V lx * 2 ^ a = X at *
  generalize hY : V ly * 2 ^ b = Y at *
  have hq := nat_QuoRem_ev (Nm_D X) (Nm_D Y) (len_bl (by omega)) (len_bl (by omega))
  rw [V_D, V_D, show quoR X Y = (D (X / Y), D (X % Y), 0) by unfold quoR; rw [if_neg (by omega)]] at hq
  have hr := Nat.mod_lt X (show Y > 0 by omega)
  have hrb := bl_mono (Nat.le_of_lt hr)
  have hs3 := nat_Shift_ev (Nm_D (X % Y)) (len_bl (by omega)) ((1 : Nat) : Int)
  rw [V_D, shiftR_up (by omega), Nat.pow_one] at hs3
  have hr2 := bl_up_le (X % Y) 1
  rw [Nat.pow_one] at hr2
  have hc := nat_Cmp_ev (Nm_D (X % Y * 2)) (Nm_D Y) (len_bl (by omega)) (len_bl (by omega))
  rw [V_D, V_D] at hc
  have jj2 : ∀ (s : Bool) (n : Nat), bl n ≤ 20000 → Ev (fun k => conv_left.j2 k false [] 0 u (D n) s) (mk (sv s n) u) := by
    intro s n hn
    have m1 := dyad_Make_ev s (Nm_D n) (len_bl (by omega)) u
    rw [V_D, makeR_ok3 (by omega) (by omega)] at m1
    refine ev_step ?_
    simp only [conv_left.j2]
    exact Ev.bind m1 (Ev.now _)
  have jj1 : ∀ (x90 : Bool), (x90 = true ↔ (2 * (X % Y) > Y ∨ (2 * (X % Y) = Y ∧ X / Y % 2 = 1))) → Ev (fun k => conv_left.j1 k false [] 0 u (D Y) (D (X % Y)) sx x90) (mk (sI sx (remI X Y)) u) := by
    intro x90 hx90
    refine ev_step ?_
    simp only [conv_left.j1]
    cases x90
    · have hn : ¬ (2 * (X % Y) > Y ∨ (2 * (X % Y) = Y ∧ X / Y % 2 = 1)) := fun h => by have := hx90.2 h; cases this
      have e : remI X Y = ((X % Y : Nat) : Int) := by
        rcases remI_cases X Y (by omega) with ⟨_, h, _⟩ | ⟨h, _, _, _⟩
        · exact h
        · exfalso; unfold rnE at h; rw [if_neg hn] at h; omega
      rw [e]
      exact ev_neg (by simp) (jj2 sx (X % Y) (by omega))
    · have hp := hx90.1 rfl
      have e : remI X Y = -((Y - X % Y : Nat) : Int) := by
        rcases remI_cases X Y (by omega) with ⟨h, _, _⟩ | ⟨_, h, _, _⟩
        · exfalso; unfold rnE at h; rw [if_pos hp] at h; omega
        · exact h
      have hsub := nat_Sub_ev (Nm_D Y) (Nm_D (X % Y)) (len_bl (by omega)) (len_bl (by omega))
      rw [V_D, V_D, show subR Y (X % Y) = (D (Y - X % Y), 0) by unfold subR; rw [if_neg (by omega)]] at hsub
      have hbl := bl_mono (show Y - X % Y ≤ Y by omega)
      rw [e, sI_neg, ← sv_sI, ← sv_not]
      refine ev_pos rfl ?_
      refine Ev.bind (hsub) ?_; try dsimp only
      exact jj2 (!sx) (Y - X % Y) (by omega)
  have jj0 : ∀ (o : Bool), o = decide (X / Y % 2 = 1) → Ev (fun k => conv_left.j0 k sx lx ex false [] 0 u (D Y) (D (X % Y)) (cmpN (X % Y * 2) Y) o) (mk (sI sx (remI X Y)) u) := by
    rintro o rfl
    refine ev_step ?_
    simp only [conv_left.j0]
    unfold cmpN
    rcases Nat.lt_trichotomy (X % Y * 2) Y with c | c | c
    · rw [if_pos c]
      refine ev_neg (by omega) (ev_neg (by omega) (jj1 _ ?_))
      constructor
      · intro h; cases h
      · intro h; omega
    · rw [if_neg (by omega), if_neg (by omega)]
      refine ev_neg (by omega) (ev_pos rfl (jj1 _ ?_))
      rw [decide_eq_true_iff]
      constructor
      · intro h; right; omega
      · rintro (h | h)
        · omega
        · exact h.2
    · rw [if_neg (by omega), if_pos c]
      refine ev_pos (by omega) (jj1 _ ?_)
      constructor
      · intro _; left; omega
      · intro _; rfl
  refine Ev.bind (hs1) ?_; try dsimp only
  refine Ev.bind (hs2) ?_; try dsimp only
  refine Ev.bind (hq) ?_; try dsimp only
  refine Ev.bind (hs3) ?_; try dsimp only
  refine Ev.bind (hc) ?_; try dsimp only
  by_cases c : D (X / Y) = []
  · have h0 : X / Y = 0 := by rw [← V_D (X / Y), c]; rfl
    refine ev_neg (by rw [c]; simp) ?_
    exact jj0 false (by rw [h0]; rfl)
  · have hl := len_pos c
    refine ev_pos hl (ev_pos (by omega) ?_)
    have hod := low_digit (Dg_D (X / Y))
    rw [V_D] at hod
    rw [hod]
    refine jj0 _ ?_
    exact decide_eq_decide.2 (by omega)
/-! ### the reference -/
end Go.Proofs.YtclegbgmhimenaaDoor.Eng.K

/- Remainders, the reference: cuts, quotients, the nearest whole number. -/
set_option linter.unusedVariables false
set_option linter.unusedSimpArgs false
namespace Go.Proofs.YtclegbgmhimenaaDoor.Eng.K
open Go.RowKit

theorem mz_abs {z : Int} (h : z ≠ 0) (e : Int) : ∃ j : Nat, z.natAbs = V (mk z e).2.1 * 2 ^ j ∧ (mk z e).2.2 = e + j ∧ (mk z e).1 = decide (z < 0) ∧ V (mk z e).2.1 ≠ 0 := by
  have hza : z.natAbs ≠ 0 := by omega
  obtain ⟨q, hq⟩ := lw_is hza
  have hd : z.natAbs / 2 ^ lw z.natAbs = 2 * q + 1 := by
    have : z.natAbs / 2 ^ lw z.natAbs = 2 ^ lw z.natAbs * (2 * q + 1) / 2 ^ lw z.natAbs := by rw [← hq]
    rw [this, Nat.mul_div_cancel_left _ (pw_pos _)]
  have hm : mk z e = (decide (z < 0), D (z.natAbs / 2 ^ lw z.natAbs), e + (lw z.natAbs : Nat)) := by unfold mk; rw [if_neg h]
  refine ⟨lw z.natAbs, ?_, by rw [hm], by rw [hm], ?_⟩
  · rw [hm]
    show _ = V (D _) * _
    rw [V_D, hd, Nat.mul_comm]; exact hq
  · rw [hm]
    show V (D _) ≠ 0
    rw [V_D, hd]; omega
theorem sv_pow (s : Bool) (n j : Nat) : sv s n * 2 ^ j = sv s (n * 2 ^ j) := by
  unfold sv; split
  · rw [Int.neg_mul, Int.natCast_mul, Int.natCast_pow]; rfl
  · rw [Int.natCast_mul, Int.natCast_pow]; rfl
end Go.Proofs.YtclegbgmhimenaaDoor.Eng.K

/- Remainders of words, both ways; what is known. -/
set_option linter.unusedVariables false
set_option linter.unusedSimpArgs false
namespace Go.Proofs.YtclegbgmhimenaaDoor.Eng.K
open Go.RowKit

/-- A finite word's number, in its one form. -/
def wv (f : Int) (w : Nat) : Bool × List Int × Int := mk (sv (wneg f w) (wmag f w)) (wex f w)
structure Wv (f : Int) (w : Nat) : Prop where
  dy : Dy (wv f w).1 (wv f w).2.1 (wv f w).2.2
  ne : V (wv f w).2.1 ≠ 0
  b : bl (V (wv f w).2.1) ≤ pr f
  lo : lo f ≤ (wv f w).2.2
  hi : (wv f w).2.2 + (bl (V (wv f w).2.1) : Nat) = wex f w + (bl (wmag f w) : Nat)
  s : (wv f w).1 = wneg f w
theorem fin_top {f : Int} (h : isF f) {w : Nat} (h2 : cls f w < 4) : wex f w + (bl (wmag f w) : Nat) ≤ wd f := by
  rw [cls_eq h] at h2
  have h3 := wmag_bl h w
  have h4 := fits_room h
  have h5 := wfrac_lt f w
  have h6 := pr_eq h
  have h7 := mo_ge h
  have hlo := lo_b h
  have hwd := wd_b h
  by_cases c : wexpo f w = 0
  · unfold wex; rw [if_pos c]
    have := fb_le h
    omega
  · rw [if_neg c] at h2
    have : wexpo f w < mo f := by
      rcases Nat.lt_or_ge (wexpo f w) (mo f) with c2 | c2
      · exact c2
      · rw [if_neg (by omega)] at h2; split at h2 <;> omega
    unfold wex; rw [if_neg c]
    omega
theorem wv_ok {f : Int} (h : isF f) {w : Nat} (h1 : cls f w ≠ 1) (h2 : cls f w < 4) : Wv f w := by
  have hn := cls_num h h1 h2
  obtain ⟨a1, a2, a3⟩ := w_sv (s := wneg f w) hn
  obtain ⟨j, j1, j2, j3, j4⟩ := mz_abs a3 (wex f w)
  have hb := wmag_bl h w
  have hl : lo f ≤ wex f w := by
    unfold wex
    split <;> omega
  rw [a2] at j1
  have hbl : bl (wmag f w) = bl (V (wv f w).2.1) + j := by rw [j1]; exact bl_up j4 j
  have e2 : (wv f w).2.2 = wex f w + j := j2
  refine ⟨Dy_mk _ _, j4, by omega, by omega, by omega, ?_⟩
  show (mk _ _).1 = _
  rw [j3, a1]
/-- What is left. -/
def remA (f : Int) (a b : Nat) : Nat := V (wv f a).2.1 * 2 ^ ((wv f a).2.2 - min (wv f a).2.2 (wv f b).2.2).toNat
def remB (f : Int) (a b : Nat) : Nat := V (wv f b).2.1 * 2 ^ ((wv f b).2.2 - min (wv f a).2.2 (wv f b).2.2).toNat
def remZ (f : Int) (a b : Nat) : Int := sI (wneg f a) (remI (remA f a b) (remB f a b))
def remU (f : Int) (a b : Nat) : Int := min (wv f a).2.2 (wv f b).2.2
def remS (f : Int) (a b : Nat) : Int × Int :=
  if cls f a = 5 ∨ cls f b = 5 then ((nanW f : Int), 0) else if cls f a = 4 ∨ cls f b = 1 then ((nanW f : Int), 1) else if cls f b = 4 ∨ cls f a = 1 then ((a : Int), 0)
  else if remZ f a b = 0 then ((sgn f (wneg f a) : Int), 0) else (((encN f (remZ f a b).natAbs (remU f a b) + sgn f (decide (remZ f a b < 0)) : Nat) : Int), 0)
theorem rem_fits {f : Int} (h : isF f) {a b : Nat} (ha1 : cls f a ≠ 1) (ha2 : cls f a < 4) (hb1 : cls f b ≠ 1) (hb2 : cls f b < 4) : (remZ f a b).natAbs ≤ 2 ^ pr f ∧ lo f ≤ remU f a b ∧ (bl (remZ f a b).natAbs : Int) + remU f a b ≤ wd f := by
  have wa := wv_ok h ha1 ha2
  have wb := wv_ok h hb1 hb2
  have hB : 0 < remB f a b := Nat.mul_pos (Nat.pos_of_ne_zero wb.ne) (pw_pos _)
  have hle := remI_le (remA f a b) (remB f a b) hB
  have hab : (remZ f a b).natAbs = (remI (remA f a b) (remB f a b)).natAbs := by unfold remZ sI; split <;> omega
  rw [hab]
  have ft := fin_top h ha2
  have la := wa.lo
  have lb := wb.lo
  have hi := wa.hi
  refine ⟨?_, by unfold remU; omega, ?_⟩
  · rcases Int.le_total (wv f a).2.2 (wv f b).2.2 with c | c
    · have e : remA f a b = V (wv f a).2.1 := by unfold remA; rw [Int.min_eq_left c, Int.sub_self]; simp
      have h1 := lt_bl (V (wv f a).2.1)
      have h2 : 2 ^ bl (V (wv f a).2.1) ≤ 2 ^ pr f := Nat.pow_le_pow_right (by omega) wa.b
      omega
    · have e : remB f a b = V (wv f b).2.1 := by unfold remB; rw [Int.min_eq_right c, Int.sub_self]; simp
      have h1 := lt_bl (V (wv f b).2.1)
      have h2 : 2 ^ bl (V (wv f b).2.1) ≤ 2 ^ pr f := Nat.pow_le_pow_right (by omega) wb.b
      omega
  · have h1 := bl_mono hle.1
    have h2 : bl (remA f a b) = bl (V (wv f a).2.1) + ((wv f a).2.2 - min (wv f a).2.2 (wv f b).2.2).toNat := bl_up wa.ne _
    unfold remU
    omega
theorem wv_b {f : Int} (h : isF f) {w : Nat} (hw : Wv f w) (h2 : cls f w < 4) : -5000 ≤ (wv f w).2.2 ∧ (wv f w).2.2 ≤ 5000 ∧ bl (V (wv f w).2.1) ≤ 64 := by
  have := hw.lo
  have := hw.hi
  have := hw.b
  have := lo_b h
  have := wd_b h
  have := fin_top h h2
  have := pr_eq h
  have := fb_le h
  refine ⟨by omega, by omega, by omega⟩
theorem Rem_j3 {f : Int} (h : isF f) {a b : Nat} (ha : a < 2 * sg f) (hb : b < 2 * sg f) (ha2 : cls f a < 4) (hb1 : cls f b ≠ 1) (hb2 : cls f b < 4) (ha1 : cls f a ≠ 1) :
    Ev (fun k => conv_Rem.j3 k f (a : Int) (b : Int) (wneg f a) false) ((remS f a b).1, (remS f a b).2, 0) := by
  have wa := wv_ok h ha1 ha2
  have wb := wv_ok h hb1 hb2
  obtain ⟨b1, b2, b3⟩ := wv_b h wa ha2
  obtain ⟨c1, c2, c3⟩ := wv_b h wb hb2
  have hl := left_ev wa.dy wb.dy wa.ne wb.ne b3 c3 b1 b2 c1 c2
  rw [wa.s] at hl
  have hl : Ev (fun k => conv_left.f k (wneg f a) (wv f a).2.1 (wv f a).2.2 (wv f b).1 (wv f b).2.1 (wv f b).2.2) (mk (remZ f a b) (remU f a b)) := hl
  rw [← wa.s] at hl
  obtain ⟨f1, f2, f3⟩ := rem_fits h ha1 ha2 hb1 hb2
  have hwd := wd_b h
  have hlo := lo_b h
  have hmy := my_of (z := remZ f a b) (e := remU f a b) ⟨by
    have h1 : bl (remZ f a b).natAbs ≤ pr f + 1 := bl_le_of_lt (Nat.lt_of_le_of_lt f1 (by rw [Nat.pow_succ]; have := pw_pos (pr f); omega))
    have := pr_eq h
    have := fb_le h
    omega, by omega, by omega⟩
  have hs := dyad_Sign_ev hmy
  have e2 : (sv (mk (remZ f a b) (remU f a b)).1 (V (mk (remZ f a b) (remU f a b)).2.1)).sign = (remZ f a b).sign := mk_sign _ _
  rw [e2] at hs
  have eS : remS f a b = if remZ f a b = 0 then ((sgn f (wneg f a) : Int), 0) else (((encN f (remZ f a b).natAbs (remU f a b) + sgn f (decide (remZ f a b < 0)) : Nat) : Int), 0) := by
    unfold remS
    rw [if_neg (by omega), if_neg (by omega), if_neg (by omega)]
  rw [eS]
  refine ev_step ?_
  simp only [conv_Rem.j3]
  refine ev_neg (by simp) ?_
  refine Ev.bind (word_Value_ev h ha ha2) ?_; try dsimp only
  refine Ev.bind (word_Value_ev h hb hb2) ?_; try dsimp only
  refine Ev.bind (hl) ?_; try dsimp only
  by_cases c : remZ f a b = 0
  · rw [if_pos c]
    rw [c] at hs ⊢
    rw [mk_zero] at hs ⊢
    refine Ev.bind (word_Of_zero h) ?_; try dsimp only
    refine Ev.bind (hs) ?_; try dsimp only
    refine ev_pos rfl ?_
    refine Ev.bind (word_Zero_ev h (wneg f a)) ?_; try dsimp only
    exact Ev.now _
  · rw [if_neg c]
    have hw := word_of_size h (decide (remZ f a b < 0)) (q := (remZ f a b).natAbs) (E := remU f a b) f1 f2 f3 (by omega)
    rw [sv_self] at hw
    refine Ev.bind (hw) ?_; try dsimp only
    refine Ev.bind (hs) ?_; try dsimp only
    refine ev_neg (fun h => c (by rcases sgn_cases (remZ f a b) with ⟨_, k⟩ | ⟨k, _⟩ | ⟨_, k⟩ <;> omega)) ?_
    exact Ev.now _
theorem conv_Rem_ev {f : Int} (h : isF f) {a b : Nat} (ha : a < 2 * sg f) (hb : b < 2 * sg f) : Ev (fun k => conv_Rem.f k f (a : Int) (b : Int)) ((remS f a b).1, (remS f a b).2, 0) := by
  have hm : isM 1 := ⟨by omega, by omega⟩
  have ca := cls_b h a
  have cb := cls_b h b
  unfold conv_Rem.f
  refine Ev.bind (conv_open_good h hm ha) ?_; try dsimp only
  refine ev_neg (by simp) ?_
  refine Ev.bind (conv_open_good h hm hb) ?_; try dsimp only
  refine ev_neg (by simp) ?_
  have r5 : cls f a = 5 ∨ cls f b = 5 → Ev (fun k => conv_Rem.j1 k f (a : Int) (b : Int) (cls f a) (wneg f a) (cls f b) true) ((remS f a b).1, (remS f a b).2, 0) := by
    intro c
    have eS : remS f a b = ((nanW f : Int), 0) := by unfold remS; rw [if_pos c]
    rw [eS]
    refine ev_step ?_
    simp only [conv_Rem.j1]
    refine ev_pos trivial ?_
    refine Ev.bind (word_None_ev h) ?_; try dsimp only
    exact Ev.now _
  by_cases c5 : cls f a = 5
  · exact ev_pos c5 (r5 (.inl c5))
  refine ev_neg c5 ?_
  by_cases d5 : cls f b = 5
  · have := r5 (.inr d5)
    rw [decide_eq_true d5]; exact this
  rw [decide_eq_false d5]
  refine ev_step ?_
  simp only [conv_Rem.j1]
  refine ev_neg (by simp) ?_
  have r4 : cls f a = 4 ∨ cls f b = 1 → Ev (fun k => conv_Rem.j2 k f (a : Int) (b : Int) (cls f a) (wneg f a) (cls f b) true) ((remS f a b).1, (remS f a b).2, 0) := by
    intro c
    have eS : remS f a b = ((nanW f : Int), 1) := by unfold remS; rw [if_neg (by omega), if_pos c]
    rw [eS]
    refine ev_step ?_
    simp only [conv_Rem.j2]
    refine ev_pos trivial ?_
    refine Ev.bind (word_None_ev h) ?_; try dsimp only
    exact Ev.now _
  by_cases c4 : cls f a = 4
  · exact ev_pos c4 (r4 (.inl c4))
  refine ev_neg c4 ?_
  by_cases d1 : cls f b = 1
  · rw [decide_eq_true d1]; exact r4 (.inr d1)
  rw [decide_eq_false d1]
  refine ev_step ?_
  simp only [conv_Rem.j2]
  refine ev_neg (by simp) ?_
  have r3 : cls f b = 4 ∨ cls f a = 1 → Ev (fun k => conv_Rem.j3 k f (a : Int) (b : Int) (wneg f a) true) ((remS f a b).1, (remS f a b).2, 0) := by
    intro c
    have eS : remS f a b = ((a : Int), 0) := by unfold remS; rw [if_neg (by omega), if_neg (by omega), if_pos c]
    rw [eS]
    refine ev_step ?_
    simp only [conv_Rem.j3]
    exact ev_pos trivial (Ev.now _)
  by_cases d4 : cls f b = 4
  · exact ev_pos d4 (r3 (.inl d4))
  refine ev_neg d4 ?_
  by_cases c1 : cls f a = 1
  · rw [decide_eq_true c1]; exact r3 (.inr c1)
  rw [decide_eq_false c1]
  exact Rem_j3 h ha hb (by omega) d1 (by omega) c1
/-! ### the reference -/
/-! ### what is known -/
theorem known_ev : Ev (fun k => cutplanelaw06_known.f k) true := by
  have f1 : isF 1 := .inl rfl
  have f2 : isF 2 := .inr rfl
  have m4 : isM 4 := ⟨by omega, by omega⟩
  have h1 := conv_To_ev f2 f1 m4 (w := 4607182419068452864) (by decide)
  have e1 : toS 2 1 4 4607182419068452864 = (1065353217, 16) := by decide +kernel
  rw [e1] at h1
  have h2 := conv_Rem_ev f2 (a := 4617315517961601024) (b := 4613937818241073152) (by decide) (by decide)
  have e2 : remS 2 4617315517961601024 4613937818241073152 = (13830554455654793216, 0) := by decide +kernel
  rw [e2] at h2
  unfold cutplanelaw06_known.f
  refine Ev.bind (h1) ?_; try dsimp only
  refine Ev.bind (h2) ?_; try dsimp only
  refine ev_pos rfl (ev_pos rfl (ev_pos rfl (ev_pos rfl (ev_pos rfl ?_))))
  exact Ev.now _
end Go.Proofs.YtclegbgmhimenaaDoor.Eng.K

/- ConvFormats and ConvRemainders: for every input they answer true. -/
set_option linter.unusedVariables false
set_option linter.unusedSimpArgs false
namespace Go.Proofs.YtclegbgmhimenaaDoor.Eng.K
open Go.RowKit

theorem known_then : Ev (fun k => (cutplanelaw06_known.f k).bind fun t => some t) true := Ev.bind known_ev (Ev.now _)
theorem u64_nat {n : Int} (h : IntKind.u64.min ≤ n ∧ n ≤ IntKind.u64.max) : ∃ w : Nat, n = (w : Int) ∧ w < 18446744073709551616 := by
  simp [IntKind.min, IntKind.max, IntKind.signed, IntKind.bits] at h
  exact ⟨n.toNat, by omega, by omega⟩
end Go.Proofs.YtclegbgmhimenaaDoor.Eng.K

/- Words times powers of two, and their parts, both ways. -/
set_option linter.unusedVariables false
set_option linter.unusedSimpArgs false
namespace Go.Proofs.YtclegbgmhimenaaDoor.Eng.K
open Go.RowKit

theorem roundS_high {f m : Int} (h : isF f) (s : Bool) {n : Nat} (hn : n ≠ 0) {e : Int} (ht : wd f < e + (bl n : Nat)) : roundS f m s n e = ((overW f m s : Int), 20) := by
  have hl := lo_b h
  have hwb := wd_b h
  have hf := fits_room h
  have hpr := pr_eq h
  have hfb := fb_le h
  have hu : unitR f n e = e + (bl n : Nat) - (pr f : Nat) := by unfold unitR; omega
  have := (R_mono_top (m := m) (s := s) (n := n) (e := e) (E := unitR f n e) hn (by omega)).1
  unfold roundS
  exact if_pos (by omega)
theorem rnd_far (m : Int) (s : Bool) {n k : Nat} (hn : n ≠ 0) (h : bl n + 1 ≤ k) : rnd m s n k = bN (upB m s false false true) ∧ n % 2 ^ k ≠ 0 := by
  have h1 := lt_bl n
  have h2 : 2 ^ (bl n + 1) ≤ 2 ^ k := Nat.pow_le_pow_right (by omega) h
  rw [Nat.pow_succ] at h2
  refine ⟨?_, by rw [Nat.mod_eq_of_lt (by omega)]; exact hn⟩
  unfold rnd
  rw [Nat.div_eq_of_lt (by omega), Nat.mod_eq_of_lt (a := n) (by omega), Nat.mod_eq_of_lt (a := 2 * n) (by omega)]
  rw [decide_eq_false (by omega : ¬ (0 % 2 = 1)), decide_eq_false (by omega : ¬ (2 ^ k ≤ 2 * n)), decide_eq_true (by omega : 2 * n ≠ 0), Nat.zero_add]
  rfl
theorem roundS_low {f m : Int} (h : isF f) (s : Bool) {n : Nat} (hn : n ≠ 0) {e : Int} (ht : e + (bl n : Nat) ≤ lo f - 1) : roundS f m s n e = ((((if bN (upB m s false false true) = 0 then 0 else encN f (bN (upB m s false false true)) (lo f)) + sgn f s : Nat) : Int), 24) := by
  have hl := lo_b h
  have hwb := wd_b h
  have hpr := pr_eq h
  have hfb := fb_le h
  have hu : unitR f n e = lo f := by unfold unitR; omega
  have hp := bl_pos hn
  obtain ⟨r1, r2⟩ := rnd_far m s hn (k := (lo f - e).toNat) (by omega)
  have hR : R m s n e (lo f) = bN (upB m s false false true) := by
    unfold R
    rw [show (e - lo f).toNat = 0 by omega, Nat.pow_zero, Nat.mul_one]
    exact r1
  have hX : exR n e (lo f) = false := decide_eq_false r2
  have hb : bN (upB m s false false true) ≤ 1 := by unfold bN; split <;> omega
  have hbl : bl (bN (upB m s false false true)) ≤ 1 := bl_le_of_lt (by omega)
  have hm := (R_mono_top (m := m) (s := s) (n := n) (e := e) (E := e + (bl n : Nat) - (pr f : Nat)) hn (by omega)).2
  unfold roundS
  simp only [hu, hR, hX]
  rw [if_neg (by omega), if_neg Bool.false_ne_true, Prod.mk.injEq]
  exact ⟨rfl, if_pos (by omega)⟩
/-- Far enough is far enough. -/
theorem roundS_far {f m : Int} (h : isF f) (s : Bool) {n : Nat} (hn : n ≠ 0) (hb : bl n ≤ 64) {e : Int} (he : -1074 ≤ e ∧ e ≤ 3000) {a b : Int} (hab : (9000 ≤ a ∧ 9000 ≤ b) ∨ (a ≤ -9000 ∧ b ≤ -9000) ∨ a = b) : roundS f m s n (e + a) = roundS f m s n (e + b) := by
  have hl := lo_b h
  have hwb := wd_b h
  have hp := bl_pos hn
  rcases hab with h1 | h1 | h1
  · rw [roundS_high h s hn (by omega), roundS_high h s hn (by omega)]
  · rw [roundS_low h s hn (by omega), roundS_low h s hn (by omega)]
  · rw [h1]
def clampN (n : Int) : Int := max (-10000) (min 10000 n)
def scaleS (f m : Int) (w : Nat) (n : Int) : Int × Int :=
  if cls f w = 5 then ((nanW f : Int), 0) else if cls f w = 4 ∨ cls f w = 1 then ((w : Int), 0) else roundS f m (wneg f w) (wmag f w) (wex f w + clampN n)
theorem Scale_ev {f m : Int} (h : isF f) (hm : isM m) {w : Nat} (hw : w < 2 * sg f) (n : Int) : Ev (fun k => conv_Scale.f k f m (w : Int) n) ((scaleS f m w n).1, (scaleS f m w n).2, 0) := by
  have hb := cls_b h w
  unfold conv_Scale.f
  refine Ev.bind (conv_open_good h hm hw) ?_; try dsimp only
  refine ev_neg (by simp) ?_
  by_cases c5 : cls f w = 5
  · have eS : scaleS f m w n = ((nanW f : Int), 0) := by unfold scaleS; rw [if_pos c5]
    rw [eS]
    refine ev_pos c5 ?_
    refine Ev.bind (word_None_ev h) ?_; try dsimp only
    exact Ev.now _
  refine ev_neg c5 ?_
  have jt : cls f w = 4 ∨ cls f w = 1 → Ev (fun k => conv_Scale.j0 k f m (w : Int) n true) ((scaleS f m w n).1, (scaleS f m w n).2, 0) := by
    intro c
    have eS : scaleS f m w n = ((w : Int), 0) := by unfold scaleS; rw [if_neg c5, if_pos c]
    rw [eS]
    refine ev_step ?_
    simp only [conv_Scale.j0]
    exact ev_pos trivial (Ev.now _)
  by_cases c4 : cls f w = 4
  · exact ev_pos c4 (jt (.inl c4))
  refine ev_neg c4 ?_
  by_cases c1 : cls f w = 1
  · rw [decide_eq_true c1]; exact jt (.inr c1)
  rw [decide_eq_false c1]
  have eS : scaleS f m w n = roundS f m (wneg f w) (wmag f w) (wex f w + clampN n) := by unfold scaleS; rw [if_neg c5, if_neg (by omega)]
  have hn := cls_num h c1 (by omega)
  obtain ⟨a1, a2, a3⟩ := w_sv (s := wneg f w) hn
  have b1 := wmag_bl h w
  have b2 := wex_b h w
  have b3 := pr_eq h
  have b4 := fb_le h
  rw [eS, ← roundS_far (m := m) h (wneg f w) hn (by omega) b2 (a := mn 16384 (mx (-16384) n)) (b := clampN n) (by rw [mn_eq, mx_eq]; unfold clampN; omega)]
  have hc : -16384 ≤ mn 16384 (mx (-16384) n) ∧ mn 16384 (mx (-16384) n) ≤ 16384 := by rw [mn_eq, mx_eq]; omega
  obtain ⟨c, hce⟩ : ∃ c, c = mn 16384 (mx (-16384) n) := ⟨_, rfl⟩
  rw [← hce] at hc ⊢
  have hmy := my_of (w_mg h w)
  refine ev_step ?_
  simp only [conv_Scale.j0]
  rw [← hce]
  refine ev_neg (by simp) ?_
  refine Ev.bind (word_Value_ev h hw (by omega)) ?_; try dsimp only
  have hmb := me_b (sv (wneg f w) (wmag f w)) (wex f w)
  rw [a2] at hmb
  have hme : (mk (sv (wneg f w) (wmag f w)) (wex f w)).2.2 = me (sv (wneg f w) (wmag f w)) (wex f w) := rfl
  have hs := dyad_Shift_eq hmy (n := c) (by omega) (by omega) (by omega)
  have e1 : mk (sv (mk (sv (wneg f w) (wmag f w)) (wex f w)).1 (V (mk (sv (wneg f w) (wmag f w)) (wex f w)).2.1)) ((mk (sv (wneg f w) (wmag f w)) (wex f w)).2.2 + c) = mk (sv (wneg f w) (wmag f w)) (wex f w + c) := by
    show mk (mz _ _) (me _ _ + c) = _
    obtain ⟨j, j1, j2, _, _⟩ := mk_val a3 (wex f w)
    have e3 : mk (sv (wneg f w) (wmag f w)) (wex f w + c) = mk (mz (sv (wneg f w) (wmag f w)) (wex f w) * 2 ^ j) (wex f w + c) := by rw [← j1]
    rw [e3, mk_up, j2]
    congr 1; omega
  rw [e1] at hs
  refine ev_bind (hs) ?_; try dsimp only
  have hr := Round_mk h hm a3 (e := wex f w + c) ⟨by rw [a2]; omega, by omega, by rw [a2]; omega⟩
  rw [a1, a2] at hr
  refine Ev.bind (hr) ?_; try dsimp only
  exact Ev.now _
/-! ### parts -/
def partW (f : Int) (w : Nat) : Nat := encN f (wmag f w) (-(bl (wmag f w) : Int)) + sgn f (wneg f w)
def partE (f : Int) (w : Nat) : Int := wex f w + (bl (wmag f w) : Nat)
theorem w_le {f : Int} (h : isF f) (w : Nat) : wmag f w ≤ 2 ^ pr f := by
  have h1 := lt_bl (wmag f w)
  have h2 : 2 ^ bl (wmag f w) ≤ 2 ^ pr f := Nat.pow_le_pow_right (by omega) (wmag_bl h w)
  omega
theorem Parts_num {f : Int} (h : isF f) {w : Nat} (hw : w < 2 * sg f) (c1 : cls f w ≠ 1) (c4 : cls f w < 4) : Ev (fun k => conv_Parts.f k f (w : Int)) ((partW f w : Int), partE f w, 0) := by
  have hn := cls_num h c1 c4
  obtain ⟨a1, a2, a3⟩ := w_sv (s := wneg f w) hn
  have b1 := wmag_bl h w
  have b2 := wex_b h w
  have b3 := pr_eq h
  have b4 := fb_le h
  have hl := lo_b h
  have hwb := wd_b h
  have hmy := my_of (w_mg h w)
  unfold conv_Parts.f
  refine Ev.bind (word_Class_ev h hw) ?_; try dsimp only
  refine ev_neg (by simp) (ev_neg (by omega) (ev_neg c1 ?_))
  refine Ev.bind (word_Value_ev h hw c4) ?_; try dsimp only
  have ht := dyad_Top_ev hmy
  have et : top (sv (mk (sv (wneg f w) (wmag f w)) (wex f w)).1 (V (mk (sv (wneg f w) (wmag f w)) (wex f w)).2.1)) (mk (sv (wneg f w) (wmag f w)) (wex f w)).2.2 = partE f w := by
    show top (mz _ _) (me _ _) = _
    rw [top_mz]
    unfold top partE
    rw [if_neg a3, a2]
  rw [et] at ht
  refine Ev.bind (ht) ?_; try dsimp only
  have hpe : partE f w = wex f w + (bl (wmag f w) : Nat) := rfl
  rw [wneg64 (by omega) (by omega)]
  have hmb := me_b (sv (wneg f w) (wmag f w)) (wex f w)
  rw [a2] at hmb
  have hme : (mk (sv (wneg f w) (wmag f w)) (wex f w)).2.2 = me (sv (wneg f w) (wmag f w)) (wex f w) := rfl
  have hs := dyad_Shift_eq hmy (n := -partE f w) (by omega) (by omega) (by omega)
  have e1 : mk (sv (mk (sv (wneg f w) (wmag f w)) (wex f w)).1 (V (mk (sv (wneg f w) (wmag f w)) (wex f w)).2.1)) ((mk (sv (wneg f w) (wmag f w)) (wex f w)).2.2 + -partE f w) = mk (sv (wneg f w) (wmag f w)) (-(bl (wmag f w) : Int)) := by
    show mk (mz _ _) (me _ _ + -partE f w) = _
    obtain ⟨j, j1, j2, _, _⟩ := mk_val a3 (wex f w)
    have e3 : mk (sv (wneg f w) (wmag f w)) (-(bl (wmag f w) : Int)) = mk (mz (sv (wneg f w) (wmag f w)) (wex f w) * 2 ^ j) (-(bl (wmag f w) : Int)) := by rw [← j1]
    rw [e3, mk_up, j2]
    congr 1; omega
  rw [e1] at hs
  refine ev_bind (hs) ?_; try dsimp only
  refine Ev.bind (word_of_size h (wneg f w) (q := wmag f w) (E := -(bl (wmag f w) : Int)) (w_le h w) (by omega) (by omega) hn) ?_; try dsimp only
  exact Ev.now _
/-! ### the law -/
end Go.Proofs.YtclegbgmhimenaaDoor.Eng.K

