import Derived.Test.YtclegbgmhimenaaDoorQConvLeftF1
import Derived.Laws.BitsAllLaws
import Derived.Lib.Bytes
set_option linter.unusedVariables false
set_option linter.unusedSimpArgs false
/- Loops that answer from some number of rounds on. -/
namespace Go.Proofs.YtclegbgmhimenaaDoor.Eng
def Ev {α : Type} (g : Nat → Option α) (r : α) : Prop := ∃ n, ∀ k, n ≤ k → g k = some r
theorem Ev.now {α : Type} (r : α) : Ev (fun _ => some r) r := ⟨0, fun _ _ => rfl⟩
theorem Ev.bind {α β : Type} {g : Nat → Option α} {f : Nat → α → Option β} {a : α} {r : β} (h : Ev g a) (k : Ev (fun n => f n a) r) : Ev (fun n => (g n).bind (f n)) r := by
  obtain ⟨n, hn⟩ := h
  obtain ⟨m, hm⟩ := k
  exact ⟨n + m, fun i hi => by show (g i).bind (f i) = some r; rw [hn i (by omega), Option.bind_some]; exact hm i (by omega)⟩
theorem Ev.step {α : Type} {g f : Nat → Option α} {r : α} (h : ∀ k, g (k + 1) = f k) (k : Ev f r) : Ev g r := by
  obtain ⟨n, hn⟩ := k
  refine ⟨n + 1, fun i hi => ?_⟩
  obtain ⟨i, rfl⟩ : ∃ j, i = j + 1 := ⟨i - 1, by omega⟩
  rw [h]; exact hn i (by omega)
end Go.Proofs.YtclegbgmhimenaaDoor.Eng

/- Numbers as lists of digits to the base 2^32: their values, the normal list of a number; loops that answer from some number of rounds on. -/
set_option linter.unusedVariables false
set_option linter.unusedSimpArgs false
namespace Go.Proofs.YtclegbgmhimenaaDoor.Eng.K
open Go.RowKit

/-! ### what the printed functions are made of -/
theorem w64n {n : Int} (h0 : 0 ≤ n) (h1 : n < 9223372036854775808) : wrap64 n = n := by unfold wrap64; omega
theorem u64 {n : Int} (h0 : 0 ≤ n) (h1 : n < 18446744073709551616) : IntKind.u64.wrap n = n := by
  simp [IntKind.wrap, IntKind.bits, IntKind.signed]; omega
theorem u64m (n : Int) : IntKind.u64.wrap n = n % 18446744073709551616 := by
  simp [IntKind.wrap, IntKind.bits, IntKind.signed]
theorem rdn (xs : List Int) (n : Nat) : rd xs (n : Int) = xs.getD n 0 := by simp [rd]
theorem rd_app {xs ys : List Int} {y : Int} {i : Int} (h : i = (xs.length : Int)) : rd (xs ++ y :: ys) i = y := by
  subst h; simp [rd]
theorem set_app {xs ys : List Int} {y z : Int} {i : Int} (h : i = (xs.length : Int)) : (xs ++ y :: ys).set i.toNat z = (xs ++ [z]) ++ ys := by
  subst h; simp
theorem ev_eq {α : Type} {g : Nat → Option α} {r s : α} (h : Ev g r) (e : r = s) : Ev g s := e ▸ h
theorem ev_const {α : Type} {x : Option α} {r : α} (h : x = some r) : Ev (fun _ => x) r := by subst h; exact Ev.now r
theorem ev_pos {α : Type} {c : Prop} {_ : Decidable c} {g f : Nat → Option α} {r : α} (h : c) (k : Ev g r) : Ev (fun n => if c then g n else f n) r := by
  simpa [h] using k
theorem ev_neg {α : Type} {c : Prop} {_ : Decidable c} {g f : Nat → Option α} {r : α} (h : ¬ c) (k : Ev f r) : Ev (fun n => if c then g n else f n) r := by
  simpa [h] using k
theorem ev_bind {α β : Type} {x : Option α} {f : Nat → α → Option β} {a : α} {r : β} (h : x = some a) (k : Ev (fun n => f n a) r) : Ev (fun n => x.bind (f n)) r := by
  subst h; exact k
theorem ev_step {α : Type} {g : Nat → Option α} {r : α} (k : Ev (fun n => g (n + 1)) r) : Ev g r := Ev.step (fun _ => rfl) k
/-- answers that are the same from some round on -/
theorem Ev.unique {α : Type} {g : Nat → Option α} {r s : α} (h : Ev g r) (k : Ev g s) : r = s := by
  obtain ⟨a, ha⟩ := h; obtain ⟨b, hb⟩ := k
  have h1 := ha (max a b) (Nat.le_max_left _ _); have h2 := hb (max a b) (Nat.le_max_right _ _)
  rw [h1] at h2; exact Option.some.inj h2

/-! ### values -/
def Dg (l : List Int) : Prop := ∀ x ∈ l, 0 ≤ x ∧ x < 4294967296
def V : List Int → Nat
  | [] => 0
  | d :: l => d.toNat + 4294967296 * V l
def D (n : Nat) : List Int := if h : n = 0 then [] else ((n % 4294967296 : Nat) : Int) :: D (n / 4294967296)
termination_by n
decreasing_by omega

theorem Dg.nil : Dg [] := fun _ h => by simp at h
theorem Dg.cons {d : Int} {l : List Int} (h0 : 0 ≤ d) (h1 : d < 4294967296) (h : Dg l) : Dg (d :: l) := fun x hx => by
  rcases List.mem_cons.1 hx with rfl | hx
  · exact ⟨h0, h1⟩
  · exact h x hx
theorem Dg.head {d : Int} {l : List Int} (h : Dg (d :: l)) : 0 ≤ d ∧ d < 4294967296 := h d (by simp)
theorem Dg.tail {d : Int} {l : List Int} (h : Dg (d :: l)) : Dg l := fun x hx => h x (by simp [hx])
theorem Dg.app {a b : List Int} (h : Dg a) (k : Dg b) : Dg (a ++ b) := fun x hx => by
  rcases List.mem_append.1 hx with hx | hx
  · exact h x hx
  · exact k x hx
theorem Dg.left {a b : List Int} (h : Dg (a ++ b)) : Dg a := fun x hx => h x (by simp [hx])
theorem Dg.right {a b : List Int} (h : Dg (a ++ b)) : Dg b := fun x hx => h x (by simp [hx])
theorem Dg.take {a : List Int} (h : Dg a) (n : Nat) : Dg (a.take n) := fun x hx => h x (List.mem_of_mem_take hx)
theorem Dg.drop {a : List Int} (h : Dg a) (n : Nat) : Dg (a.drop n) := fun x hx => h x (List.mem_of_mem_drop hx)
theorem Dg.zeros (n : Nat) : Dg (List.replicate n 0) := fun x hx => by
  obtain ⟨_, rfl⟩ := List.mem_replicate.1 hx; omega
theorem Dg.getD {a : List Int} (h : Dg a) (n : Nat) : 0 ≤ a.getD n 0 ∧ a.getD n 0 < 4294967296 := by
  rw [List.getD_eq_getElem?_getD]
  cases e : a[n]? with
  | none => simp
  | some x => simpa using h x (List.mem_of_getElem? e)
theorem Dg.rd {a : List Int} (h : Dg a) (i : Int) : 0 ≤ rd a i ∧ rd a i < 4294967296 := h.getD i.toNat
theorem Dg.set {a : List Int} (h : Dg a) (n : Nat) {x : Int} (h0 : 0 ≤ x) (h1 : x < 4294967296) : Dg (a.set n x) := fun y hy => by
  rcases List.mem_or_eq_of_mem_set hy with hy | rfl
  · exact h y hy
  · exact ⟨h0, h1⟩
@[simp] theorem V_nil : V [] = 0 := rfl
@[simp] theorem V_cons (d : Int) (l : List Int) : V (d :: l) = d.toNat + 4294967296 * V l := rfl
theorem V_append (a b : List Int) : V (a ++ b) = V a + 4294967296 ^ a.length * V b := by
  induction a with
  | nil => simp
  | cons d a ih => simp [ih, Nat.pow_succ]; grind
theorem V_zeros (n : Nat) : V (List.replicate n 0) = 0 := by
  induction n with
  | zero => rfl
  | succ n ih => simp [List.replicate_succ, ih]
theorem V_lt {l : List Int} (h : Dg l) : V l < 4294967296 ^ l.length := by
  induction l with
  | nil => simp
  | cons d l ih =>
    have := ih h.tail; have := h.head
    simp only [V_cons, List.length_cons, Nat.pow_succ]
    omega
theorem D_zero : D 0 = [] := by unfold D; simp
theorem D_pos {n : Nat} (h : n ≠ 0) : D n = ((n % 4294967296 : Nat) : Int) :: D (n / 4294967296) := by
  conv => lhs; unfold D
  simp [h]
theorem V_D (n : Nat) : V (D n) = n := by
  induction n using Nat.strongRecOn with
  | _ n ih =>
    by_cases h : n = 0
    · subst h; simp [D_zero]
    · rw [D_pos h, V_cons, ih _ (by omega)]; omega
theorem Dg_D (n : Nat) : Dg (D n) := by
  induction n using Nat.strongRecOn with
  | _ n ih =>
    by_cases h : n = 0
    · subst h; rw [D_zero]; exact Dg.nil
    · rw [D_pos h]; exact Dg.cons (by omega) (by omega) (ih _ (by omega))
theorem D_cons {d : Int} {n : Nat} (h0 : 0 ≤ d) (h1 : d < 4294967296) (h : d ≠ 0 ∨ n ≠ 0) : D (d.toNat + 4294967296 * n) = d :: D n := by
  rw [D_pos (by omega)]
  congr 1
  · omega
  · congr 1; omega
/-- a list that is a number's: no nought at the high end -/
def Nm (l : List Int) : Prop := D (V l) = l
instance (l : List Int) : Decidable (Nm l) := inferInstanceAs (Decidable (D (V l) = l))
theorem Nm.dg {l : List Int} (h : Nm l) : Dg l := h ▸ Dg_D _
theorem Nm_D (n : Nat) : Nm (D n) := by unfold Nm; rw [V_D]
theorem Nm_nil : Nm [] := by unfold Nm; exact D_zero
theorem Nm.inj {a b : List Int} (h : Nm a) (k : Nm b) (e : V a = V b) : a = b := by rw [← h, e, k]
theorem V_eq_zero {l : List Int} (h : Nm l) : V l = 0 ↔ l = [] := by
  constructor
  · intro e; rw [← h, e, D_zero]
  · rintro rfl; rfl
theorem Nm_snoc {l : List Int} {d : Int} (h : Dg l) (h0 : 0 < d) (h1 : d < 4294967296) : Nm (l ++ [d]) := by
  unfold Nm
  induction l with
  | nil =>
    have := D_cons (d := d) (n := 0) (by omega) h1 (by omega)
    simpa [D_zero] using this
  | cons x l ih =>
    have hx := h.head
    rw [List.cons_append, V_cons, D_cons hx.1 hx.2, ih h.tail]
    right; rw [V_append]
    have : 0 < 4294967296 ^ l.length := Nat.pow_pos (by omega)
    have : 0 < 4294967296 ^ l.length * V [d] := Nat.mul_pos this (by simp; omega)
    omega
theorem V_snoc_zero (l : List Int) : V (l ++ [0]) = V l := by rw [V_append]; simp
theorem D_len_le {l : List Int} (h : Dg l) : (D (V l)).length ≤ l.length := by
  induction l with
  | nil => simp [D_zero]
  | cons x l ih =>
    have hx := h.head
    by_cases e : x ≠ 0 ∨ V l ≠ 0
    · rw [V_cons, D_cons hx.1 hx.2 e]; simpa using ih h.tail
    · have h1 : x = 0 := by omega
      have h2 : V l = 0 := by omega
      simp [h1, h2, D_zero]
theorem Nm_last {l : List Int} {d : Int} (h : Nm (l ++ [d])) : d ≠ 0 := by
  intro e; subst e
  have h2 := D_len_le h.dg.left
  have h3 : D (V (l ++ [0])) = l ++ [0] := h
  rw [V_snoc_zero] at h3
  rw [h3] at h2
  simp at h2
  omega
theorem Nm_iff {l : List Int} (h : Dg l) : Nm l ↔ l = [] ∨ l.getD (l.length - 1) 0 ≠ 0 := by
  rcases List.eq_nil_or_concat l with rfl | ⟨a, d, rfl⟩
  · simp [Nm_nil]
  · rw [List.concat_eq_append] at h ⊢
    have : (a ++ [d]).getD ((a ++ [d]).length - 1) 0 = d := by simp
    rw [this]
    constructor
    · intro k; exact .inr (Nm_last k)
    · rintro (k | k)
      · simp at k
      · have := h d (by simp)
        exact Nm_snoc h.left (by omega) this.2
theorem D_len_lt {n k : Nat} (h : n < 4294967296 ^ k) : (D n).length ≤ k := by
  induction k generalizing n with
  | zero => have : n = 0 := by simpa using h
            subst this; simp [D_zero]
  | succ k ih =>
    by_cases e : n = 0
    · subst e; simp [D_zero]
    · rw [D_pos e, List.length_cons]
      have := ih (n := n / 4294967296) (by rw [Nat.pow_succ] at h; omega)
      omega
theorem lt_D_len (n : Nat) : n < 4294967296 ^ (D n).length := by
  have := V_lt (Dg_D n); rwa [V_D] at this
theorem D_len_ge {n : Nat} (h : n ≠ 0) : 4294967296 ^ ((D n).length - 1) ≤ n := by
  apply Nat.le_of_not_lt
  intro k
  have := D_len_lt k
  have : (D n).length ≠ 0 := by rw [D_pos h]; simp
  omega
theorem D_len_mono {a b : Nat} (h : a ≤ b) : (D a).length ≤ (D b).length :=
  D_len_lt (Nat.lt_of_le_of_lt h (lt_D_len b))
theorem lt_of_D_len {a b : Nat} (h : (D a).length < (D b).length) : a < b := by
  apply Nat.lt_of_not_le
  intro k
  have := D_len_mono k
  omega
theorem Nm.len {l : List Int} (h : Nm l) : (D (V l)).length = l.length := by rw [h]
theorem Nm.lt_of_len {a b : List Int} (h : Nm a) (k : Nm b) (e : a.length < b.length) : V a < V b := by
  apply lt_of_D_len; rw [h, k]; exact e
end Go.Proofs.YtclegbgmhimenaaDoor.Eng.K

/- The first layer's plain functions: trimmed lists, comparisons, sums and differences are the numbers' own. -/
set_option linter.unusedVariables false
set_option linter.unusedSimpArgs false
namespace Go.Proofs.YtclegbgmhimenaaDoor.Eng.K
open Go.RowKit

theorem w64s {n : Nat} (h : n < 4611686018427387904) : wrap64 ((n : Int) + 1) = ((n + 1 : Nat) : Int) := by unfold wrap64; omega
theorem w64p {n : Nat} (h : n < 4611686018427387904) : wrap64 (((n + 1 : Nat) : Int) - 1) = (n : Int) := by unfold wrap64; omega

/-! ### trimmed -/
theorem trim_ev : ∀ (n : Nat) (l : List Int), l.length = n → Dg l → n < 4611686018427387904 → Ev (fun k => nat_trim.f k l) (D (V l))
  | 0, l, hn, hd, hb => by
    have : l = [] := List.eq_nil_of_length_eq_zero hn
    subst this
    refine ev_step (ev_const ?_)
    simp [nat_trim.f, nat_trim.l0, D_zero]
  | n + 1, l, hn, hd, hb => by
    rcases List.eq_nil_or_concat l with rfl | ⟨a, d, rfl⟩
    · simp at hn
    rw [List.concat_eq_append] at hn hd ⊢
    have hl : (a ++ [d]).length = n + 1 := hn
    have ha : a.length = n := by simpa using hn
    refine ev_step ?_
    show Ev (fun k => nat_trim.l0 (k + 1) (a ++ [d])) _
    simp only [nat_trim.l0, hl, w64p (n := n) (by omega)]
    refine ev_pos (by omega) (ev_pos (by omega) (ev_pos (by omega) ?_))
    rw [rd_app (by omega)]
    by_cases h0 : d = 0
    · subst h0
      refine ev_pos rfl (ev_pos (by omega) ?_)
      rw [V_snoc_zero]
      have : (a ++ [(0 : Int)]).take (n : Int).toNat = a := by simp [← ha]
      rw [this]
      exact ev_pos (by omega) (trim_ev n a ha hd.left (by omega))
    · refine ev_neg h0 ?_
      have := hd d (by simp)
      rw [Nm_snoc hd.left (by omega) this.2]
      exact Ev.now _
theorem nat_trim_ev {l : List Int} (hd : Dg l) (hb : l.length < 4611686018427387904) : Ev (fun k => nat_trim.f k l) (D (V l)) := trim_ev _ l rfl hd hb
theorem rtrim_ev (l : List Int) (hd : Dg l) (hb : l.length < 4611686018427387904) : ∀ (n : Nat) (a b : List Int), a.length = n → l = a ++ b → V b = 0 → Ev (fun k => cutplaneref01_Trim.l0 k l n) (D (V l))
  | 0, a, b, hn, he, h0 => by
    have : a = [] := List.eq_nil_of_length_eq_zero hn
    subst this
    refine ev_step ?_
    simp only [cutplaneref01_Trim.l0]
    refine ev_neg (by omega) (ev_pos (by omega) (ev_pos (by omega) ?_))
    rw [he]; simp [h0, D_zero]; exact Ev.now _
  | n + 1, a, b, hn, he, h0 => by
    rcases List.eq_nil_or_concat a with rfl | ⟨a, d, rfl⟩
    · simp at hn
    rw [List.concat_eq_append] at hn he
    have ha : a.length = n := by simpa using hn
    have hl : l.length = n + 1 + b.length := by rw [he]; simp [ha]; omega
    refine ev_step ?_
    simp only [cutplaneref01_Trim.l0, w64p (n := n) (by omega)]
    refine ev_pos (by omega) (ev_pos (by omega) (ev_pos (by omega) ?_))
    have hr : rd l n = d := by rw [he, List.append_assoc]; exact rd_app (by omega)
    rw [hr]
    by_cases hz : d = 0
    · refine ev_pos hz ?_
      exact rtrim_ev l hd hb n a (d :: b) ha (by rw [he]; simp) (by simp [h0, hz])
    · refine ev_neg hz (ev_pos (by omega) (ev_pos (by omega) ?_))
      have hd2 := hd
      rw [he] at hd2
      have h1 := hd2.left d (by simp)
      have h2 : V l = V (a ++ [d]) := by rw [he, V_append (a ++ [d]) b, h0]; simp
      have h3 : l.take ((n + 1 : Nat) : Int).toNat = a ++ [d] := by
        rw [he, Int.toNat_natCast]; exact List.take_left' (by simp [ha])
      rw [h3, h2, Nm_snoc hd2.left.left (by omega) h1.2]
      exact Ev.now _
theorem ref_Trim_ev {l : List Int} (hd : Dg l) (hb : l.length < 4611686018427387904) : Ev (fun k => cutplaneref01_Trim.f k l) (D (V l)) :=
  rtrim_ev l hd hb l.length l [] rfl (by simp) rfl
theorem V_two (n : Int) (h0 : 0 ≤ n) (h1 : n < 18446744073709551616) : V [n % 4294967296, (n / 4294967296) % 4294967296] = n.toNat := by
  simp; omega
theorem Dg_two (n : Int) : Dg [n % 4294967296, (n / 4294967296) % 4294967296] := Dg.cons (by omega) (by omega) (Dg.cons (by omega) (by omega) Dg.nil)
theorem nat_Of_ev {n : Int} (h0 : 0 ≤ n) (h1 : n < 18446744073709551616) : Ev (fun k => nat_Of.f k n) (D n.toNat) := by
  unfold nat_Of.f
  refine Ev.bind (nat_trim_ev (Dg_two n) (by simp)) ?_
  rw [V_two n h0 h1]; exact Ev.now _
theorem ref_Of_ev {n : Int} (h0 : 0 ≤ n) (h1 : n < 18446744073709551616) : Ev (fun k => cutplaneref01_Of.f k n) (D n.toNat) := by
  unfold cutplaneref01_Of.f
  refine Ev.bind (ref_Trim_ev (Dg_two n) (by simp)) ?_
  rw [V_two n h0 h1]; exact Ev.now _

/-! ### the same digits -/
/-! ### which lists are numbers -/
def may (l : List Int) : Bool := decide (l.length ≤ 4096) && decide (Nm l)
theorem may_iff {l : List Int} : may l = true ↔ l.length ≤ 4096 ∧ Nm l := by simp [may]
theorem nat_May_eq {l : List Int} (h : Dg l) (hb : l.length < 4611686018427387904) : nat_May.f l = some (may l) := by
  unfold nat_May.f may
  by_cases h1 : l.length ≤ 4096
  · rw [if_pos (by omega)]
    by_cases h2 : l.length = 0
    · have : l = [] := List.eq_nil_of_length_eq_zero h2
      subst this; simp [Nm_nil]
    · rw [if_neg (by omega)]
      have e : wrap64 ((l.length : Int) - 1) = ((l.length - 1 : Nat) : Int) := by unfold wrap64; omega
      rw [e, if_pos (by omega), if_pos (by omega), rdn]
      have h3 : l ≠ [] := fun e => h2 (by rw [e]; rfl)
      have h4 := Nm_iff h
      by_cases h5 : l.getD (l.length - 1) 0 = 0
      · have : ¬ Nm l := fun k => by rcases h4.1 k with k | k <;> contradiction
        rw [h5]; simp [this]
      · have : Nm l := h4.2 (.inr h5)
        simp only [h5, not_false_eq_true, decide_true]; simp [h1, this]
  · rw [if_neg (by omega)]; simp [h1]
theorem all2_ev {a b : List Int} (ha : Dg a) (hb : Dg b) (la : a.length < 4611686018427387904) (lb : b.length < 4611686018427387904) : Ev (fun k => nat_all.f k [a, b]) (may a && may b) := by
  unfold nat_all.f
  refine ev_step ?_
  simp only [nat_all.l0]
  refine ev_pos (by simp) (ev_pos (by omega) (ev_pos (by simp) ?_))
  have e0 : rdT [.is .u32] [a, b] 0 = a := rfl
  have e1 : rdT [.is .u32] [a, b] 1 = b := rfl
  rw [e0]
  refine ev_bind (nat_May_eq ha la) ?_
  cases may a with
  | false => exact ev_pos (by simp) (Ev.now _)
  | true =>
    refine ev_neg (by simp) ?_
    have w1 : wrap64 (0 + 1) = 1 := by unfold wrap64; omega
    have w2 : wrap64 (1 + 1) = 2 := by unfold wrap64; omega
    rw [w1]
    refine ev_step ?_
    simp only [nat_all.l0]
    refine ev_pos (by simp) (ev_pos (by omega) (ev_pos (by simp) ?_))
    rw [e1]
    refine ev_bind (nat_May_eq hb lb) ?_
    cases may b with
    | false => exact ev_pos (by simp) (Ev.now _)
    | true =>
      refine ev_neg (by simp) ?_
      rw [w2]
      refine ev_step ?_
      simp only [nat_all.l0]
      exact ev_neg (by simp) (Ev.now _)
/-! ### sums -/
theorem add32_eq {x y c : Int} (hx : 0 ≤ x ∧ x < 4294967296) (hy : 0 ≤ y ∧ y < 4294967296) (hc : 0 ≤ c ∧ c < 4294967296) : bits_Add32.f x y c = some ((x + y + c) % 4294967296, (x + y + c) / 4294967296) := by
  unfold bits_Add32.f
  rw [u64 hx.1 (by omega), u64 hy.1 (by omega), u64 hc.1 (by omega), u64 (n := x + y) (by omega) (by omega), u64 (by omega) (by omega)]
  have : (x + y + c) / 4294967296 % 4294967296 = (x + y + c) / 4294967296 := by omega
  rw [this]
theorem Dg.headD {b : List Int} (h : Dg b) : 0 ≤ b.headD 0 ∧ b.headD 0 < 4294967296 := by
  cases b with
  | nil => simp
  | cons y b => exact h.head
theorem Dg.tl {b : List Int} (h : Dg b) : Dg b.tail := by
  cases b with
  | nil => exact h
  | cons y b => exact h.tail
theorem V_headtail (b : List Int) : V b = (b.headD 0).toNat + 4294967296 * V b.tail := by
  cases b <;> simp
theorem drop_headD (b : List Int) (n : Nat) : (b.drop n).headD 0 = b.getD n 0 := by
  rw [List.headD_eq_head?_getD, List.head?_drop, List.getD_eq_getElem?_getD]
end Go.Proofs.YtclegbgmhimenaaDoor.Eng.K

/- The first layer's plain functions: comparisons and differences; a number's value. -/
set_option linter.unusedVariables false
set_option linter.unusedSimpArgs false
namespace Go.Proofs.YtclegbgmhimenaaDoor.Eng.K
open Go.RowKit

/-! ### which is above which -/
def cmpN (m n : Nat) : Int := if m < n then -1 else if n < m then 1 else 0
theorem V_take_succ {l : List Int} {n : Nat} (h : n < l.length) : V (l.take (n + 1)) = V (l.take n) + 4294967296 ^ n * (l.getD n 0).toNat := by
  rw [List.take_succ_eq_append_getElem h, V_append]
  simp [Nat.min_eq_left (Nat.le_of_lt h), h]
theorem top_lt {p q P d e : Nat} (hp : p < P) (h : d < e) : p + P * d < q + P * e := by
  have : P * (d + 1) ≤ P * e := Nat.mul_le_mul_left _ h
  rw [Nat.mul_add] at this
  omega
theorem V_take_lt {l : List Int} (h : Dg l) {n : Nat} (hn : n ≤ l.length) : V (l.take n) < 4294967296 ^ n := by
  have := V_lt (h.take n); rwa [List.length_take, Nat.min_eq_left hn] at this
theorem cmp_top {x y : List Int} (hx : Dg x) (hy : Dg y) {n : Nat} (h1 : n < x.length) (h2 : n < y.length) :
    cmpN (V (x.take (n + 1))) (V (y.take (n + 1))) = if x.getD n 0 = y.getD n 0 then cmpN (V (x.take n)) (V (y.take n)) else if x.getD n 0 < y.getD n 0 then -1 else 1 := by
  rw [V_take_succ h1, V_take_succ h2]
  have a := hx.getD n
  have b := hy.getD n
  have p := V_take_lt hx (Nat.le_of_lt h1)
  have q := V_take_lt hy (Nat.le_of_lt h2)
  by_cases e : x.getD n 0 = y.getD n 0
  · rw [if_pos e, e]; unfold cmpN; simp
  · rw [if_neg e]
    by_cases c : x.getD n 0 < y.getD n 0
    · rw [if_pos c]
      have := top_lt (q := V (y.take n)) p (show (x.getD n 0).toNat < (y.getD n 0).toNat by omega)
      unfold cmpN; rw [if_pos this]
    · rw [if_neg c]
      have := top_lt (q := V (x.take n)) q (show (y.getD n 0).toNat < (x.getD n 0).toNat by omega)
      unfold cmpN; rw [if_neg (by omega), if_pos this]
theorem w64m {n : Nat} (h : n < 4611686018427387904) : wrap64 ((n : Int) - 1) = (n : Int) - 1 := by unfold wrap64; omega
theorem cmp_l0 {x y : List Int} (hx : Dg x) (hy : Dg y) (hb : x.length < 4611686018427387904) : ∀ (n : Nat), n ≤ x.length → n ≤ y.length → Ev (fun k => nat_cmp.l0 k x y ((n : Int) - 1)) (cmpN (V (x.take n)) (V (y.take n)))
  | 0, _, _ => by
    refine ev_step ?_
    simp only [nat_cmp.l0]
    (repeat (first | (with_reducible refine ev_pos ?_ ?_; focus (first | omega | assumption | (simp; done) | (simp; omega))) | (with_reducible refine ev_neg ?_ ?_; focus (first | omega | assumption | (simp; done) | (simp; omega))))); exact Ev.now _
  | n + 1, h1, h2 => by
    refine ev_step ?_
    simp only [nat_cmp.l0]
    have e : ((n + 1 : Nat) : Int) - 1 = (n : Int) := by omega
    rw [e, w64m (n := n) (by omega)]
    (repeat (first | (with_reducible refine ev_pos ?_ ?_; focus (first | omega | assumption | (simp; done) | (simp; omega))) | (with_reducible refine ev_neg ?_ ?_; focus (first | omega | assumption | (simp; done) | (simp; omega)))))
    rw [cmp_top hx hy (by omega) (by omega), rdn, rdn]
    by_cases c : x.getD n 0 = y.getD n 0
    · (repeat (first | (with_reducible refine ev_pos ?_ ?_; focus (first | omega | assumption | (simp; done) | (simp; omega))) | (with_reducible refine ev_neg ?_ ?_; focus (first | omega | assumption | (simp; done) | (simp; omega)))))
      rw [if_pos c]
      exact cmp_l0 hx hy hb n (by omega) (by omega)
    · (repeat (first | (with_reducible refine ev_pos ?_ ?_; focus (first | omega | assumption | (simp; done) | (simp; omega))) | (with_reducible refine ev_neg ?_ ?_; focus (first | omega | assumption | (simp; done) | (simp; omega)))))
      rw [if_neg c]
      by_cases c2 : x.getD n 0 < y.getD n 0
      · (repeat (first | (with_reducible refine ev_pos ?_ ?_; focus (first | omega | assumption | (simp; done) | (simp; omega))) | (with_reducible refine ev_neg ?_ ?_; focus (first | omega | assumption | (simp; done) | (simp; omega)))))
        rw [if_pos c2]; exact Ev.now _
      · (repeat (first | (with_reducible refine ev_pos ?_ ?_; focus (first | omega | assumption | (simp; done) | (simp; omega))) | (with_reducible refine ev_neg ?_ ?_; focus (first | omega | assumption | (simp; done) | (simp; omega)))))
        rw [if_neg c2]; exact Ev.now _
theorem nat_cmp_ev {x y : List Int} (hx : Nm x) (hy : Nm y) (hb : x.length < 4611686018427387904) : Ev (fun k => nat_cmp.f k x y) (cmpN (V x) (V y)) := by
  unfold nat_cmp.f
  by_cases c : x.length < y.length
  · (repeat (first | (with_reducible refine ev_pos ?_ ?_; focus (first | omega | assumption | (simp; done) | (simp; omega))) | (with_reducible refine ev_neg ?_ ?_; focus (first | omega | assumption | (simp; done) | (simp; omega)))))
    unfold cmpN; rw [if_pos (hx.lt_of_len hy c)]; exact Ev.now _
  · (repeat (first | (with_reducible refine ev_pos ?_ ?_; focus (first | omega | assumption | (simp; done) | (simp; omega))) | (with_reducible refine ev_neg ?_ ?_; focus (first | omega | assumption | (simp; done) | (simp; omega)))))
    by_cases c2 : y.length < x.length
    · (repeat (first | (with_reducible refine ev_pos ?_ ?_; focus (first | omega | assumption | (simp; done) | (simp; omega))) | (with_reducible refine ev_neg ?_ ?_; focus (first | omega | assumption | (simp; done) | (simp; omega)))))
      have := hy.lt_of_len hx c2
      unfold cmpN; rw [if_neg (by omega), if_pos this]; exact Ev.now _
    · (repeat (first | (with_reducible refine ev_pos ?_ ?_; focus (first | omega | assumption | (simp; done) | (simp; omega))) | (with_reducible refine ev_neg ?_ ?_; focus (first | omega | assumption | (simp; done) | (simp; omega)))))
      have e : x.length = y.length := by omega
      rw [w64m (by omega)]
      have := cmp_l0 hx.dg hy.dg hb x.length (by omega) (by omega)
      rwa [List.take_length, e, List.take_length, ← e] at this
theorem rcmp_l0 {x y : List Int} (hx : Dg x) (hy : Dg y) (hb : x.length < 4611686018427387904) : ∀ (n : Nat), n ≤ x.length → n ≤ y.length → Ev (fun k => cutplaneref01_Cmp.l0 k x y ((n : Int) - 1)) (cmpN (V (x.take n)) (V (y.take n)))
  | 0, _, _ => by
    refine ev_step ?_
    simp only [cutplaneref01_Cmp.l0]
    (repeat (first | (with_reducible refine ev_pos ?_ ?_; focus (first | omega | assumption | (simp; done) | (simp; omega))) | (with_reducible refine ev_neg ?_ ?_; focus (first | omega | assumption | (simp; done) | (simp; omega))))); exact Ev.now _
  | n + 1, h1, h2 => by
    refine ev_step ?_
    simp only [cutplaneref01_Cmp.l0]
    have e : ((n + 1 : Nat) : Int) - 1 = (n : Int) := by omega
    rw [e, w64m (n := n) (by omega)]
    (repeat (first | (with_reducible refine ev_pos ?_ ?_; focus (first | omega | assumption | (simp; done) | (simp; omega))) | (with_reducible refine ev_neg ?_ ?_; focus (first | omega | assumption | (simp; done) | (simp; omega)))))
    rw [cmp_top hx hy (by omega) (by omega), rdn, rdn]
    by_cases c2 : x.getD n 0 < y.getD n 0
    · (repeat (first | (with_reducible refine ev_pos ?_ ?_; focus (first | omega | assumption | (simp; done) | (simp; omega))) | (with_reducible refine ev_neg ?_ ?_; focus (first | omega | assumption | (simp; done) | (simp; omega)))))
      rw [if_neg (by omega), if_pos c2]; exact Ev.now _
    · (repeat (first | (with_reducible refine ev_pos ?_ ?_; focus (first | omega | assumption | (simp; done) | (simp; omega))) | (with_reducible refine ev_neg ?_ ?_; focus (first | omega | assumption | (simp; done) | (simp; omega)))))
      by_cases c : x.getD n 0 > y.getD n 0
      · (repeat (first | (with_reducible refine ev_pos ?_ ?_; focus (first | omega | assumption | (simp; done) | (simp; omega))) | (with_reducible refine ev_neg ?_ ?_; focus (first | omega | assumption | (simp; done) | (simp; omega)))))
        rw [if_neg (by omega), if_neg c2]; exact Ev.now _
      · (repeat (first | (with_reducible refine ev_pos ?_ ?_; focus (first | omega | assumption | (simp; done) | (simp; omega))) | (with_reducible refine ev_neg ?_ ?_; focus (first | omega | assumption | (simp; done) | (simp; omega)))))
        rw [if_pos (by omega)]
        exact rcmp_l0 hx hy hb n (by omega) (by omega)
theorem ref_Cmp_ev {x y : List Int} (hx : Nm x) (hy : Nm y) (hb : x.length < 4611686018427387904) : Ev (fun k => cutplaneref01_Cmp.f k x y) (cmpN (V x) (V y)) := by
  unfold cutplaneref01_Cmp.f
  by_cases e : x.length = y.length
  · (repeat (first | (with_reducible refine ev_pos ?_ ?_; focus (first | omega | assumption | (simp; done) | (simp; omega))) | (with_reducible refine ev_neg ?_ ?_; focus (first | omega | assumption | (simp; done) | (simp; omega)))))
    rw [w64m (by omega)]
    have := rcmp_l0 hx.dg hy.dg hb x.length (by omega) (by omega)
    rwa [List.take_length, e, List.take_length, ← e] at this
  · (repeat (first | (with_reducible refine ev_pos ?_ ?_; focus (first | omega | assumption | (simp; done) | (simp; omega))) | (with_reducible refine ev_neg ?_ ?_; focus (first | omega | assumption | (simp; done) | (simp; omega)))))
    by_cases c : x.length < y.length
    · (repeat (first | (with_reducible refine ev_pos ?_ ?_; focus (first | omega | assumption | (simp; done) | (simp; omega))) | (with_reducible refine ev_neg ?_ ?_; focus (first | omega | assumption | (simp; done) | (simp; omega)))))
      unfold cmpN; rw [if_pos (hx.lt_of_len hy c)]; exact Ev.now _
    · (repeat (first | (with_reducible refine ev_pos ?_ ?_; focus (first | omega | assumption | (simp; done) | (simp; omega))) | (with_reducible refine ev_neg ?_ ?_; focus (first | omega | assumption | (simp; done) | (simp; omega)))))
      have := hy.lt_of_len hx (by omega)
      unfold cmpN; rw [if_neg (by omega), if_pos this]; exact Ev.now _
theorem nat_Cmp_ev {a b : List Int} (ha : Nm a) (hb : Nm b) (la : a.length ≤ 4096) (lb : b.length ≤ 4096) : Ev (fun k => nat_Cmp.f k a b) (cmpN (V a) (V b), 0) := by
  unfold nat_Cmp.f
  refine Ev.bind (all2_ev ha.dg hb.dg (by omega) (by omega)) ?_
  have h1 : may a = true := may_iff.2 ⟨la, ha⟩
  have h2 : may b = true := may_iff.2 ⟨lb, hb⟩
  refine ev_neg (by simp [h1, h2]) (Ev.bind (nat_cmp_ev ha hb (by omega)) ?_)
  exact Ev.now _
/-! ### differences -/
theorem half (n : Nat) : n >>> 31 = n / 2147483648 := by rw [Nat.shiftRight_eq_div_pow]
theorem bit_cases {n : Nat} (h : n < 4294967296) : n / 2147483648 = 0 ∨ n / 2147483648 = 1 := by omega
theorem borrow_eq {x y d : Nat} (hx : x < 4294967296) (hy : y < 4294967296) (hd : d < 4294967296) :
    ((((4294967295 ^^^ x) &&& y) ||| ((4294967295 ^^^ (x ^^^ y)) &&& d)) / 2147483648 : Nat) =
      if x / 2147483648 = 0 then (if y / 2147483648 = 0 then d / 2147483648 else 1) else (if y / 2147483648 = 0 then 0 else d / 2147483648) := by
  rw [← half, ← half, ← half, ← half, Nat.shiftRight_or_distrib, Nat.shiftRight_and_distrib, Nat.shiftRight_and_distrib, Nat.shiftRight_xor_distrib, Nat.shiftRight_xor_distrib, Nat.shiftRight_xor_distrib]
  simp only [half]
  have e : 4294967295 / 2147483648 = 1 := by decide
  rw [e]
  rcases bit_cases hx with h1 | h1 <;> rcases bit_cases hy with h2 | h2 <;> rcases bit_cases hd with h3 | h3 <;> rw [h1, h2, h3] <;> decide
theorem sub32_eq {x y c : Int} (hx : 0 ≤ x ∧ x < 4294967296) (hy : 0 ≤ y ∧ y < 4294967296) (hc : 0 ≤ c ∧ c ≤ 1) : bits_Sub32.f x y c = some ((x - y - c) % 4294967296, if x < y + c then 1 else 0) := by
  unfold bits_Sub32.f
  have hd : ((x - y) % 4294967296 - c) % 4294967296 = (x - y - c) % 4294967296 := by omega
  rw [hd]
  obtain ⟨X, rfl⟩ := Int.eq_ofNat_of_zero_le hx.1
  obtain ⟨Y, rfl⟩ := Int.eq_ofNat_of_zero_le hy.1
  obtain ⟨Z, hZ⟩ := Int.eq_ofNat_of_zero_le (show 0 ≤ ((X : Int) - Y - c) % 4294967296 by omega)
  have hZl : Z < 4294967296 := by omega
  have h1 : 4294967295 ^^^ X < 4294967296 := Nat.xor_lt_two_pow (n := 32) (by omega) (by omega)
  have h2 : X ^^^ Y < 4294967296 := Nat.xor_lt_two_pow (n := 32) (by omega) (by omega)
  have h3 : 4294967295 ^^^ (X ^^^ Y) < 4294967296 := Nat.xor_lt_two_pow (n := 32) (by omega) (by omega)
  have h4 : (4294967295 ^^^ X) &&& Y < 4294967296 := Nat.and_lt_two_pow (n := 32) _ (by omega)
  have h5 : (4294967295 ^^^ (X ^^^ Y)) &&& Z < 4294967296 := Nat.and_lt_two_pow (n := 32) _ (by omega)
  have e : (4294967295 : Int) = ((4294967295 : Nat) : Int) := rfl
  rw [hZ, e, u32_xor_nat _ _ (by omega) (by omega), u32_and_nat _ _ h1 (by omega), u32_xor_nat _ _ (by omega) (by omega), u32_xor_nat _ _ (by omega) h2, u32_and_nat _ _ h3 hZl, u32_or_nat _ _ h4 h5]
  have b := borrow_eq (x := X) (y := Y) (d := Z) (by omega) (by omega) hZl
  have : (((((4294967295 ^^^ X) &&& Y ||| (4294967295 ^^^ (X ^^^ Y)) &&& Z : Nat) : Int)) / 2147483648) = (((((4294967295 ^^^ X) &&& Y ||| (4294967295 ^^^ (X ^^^ Y)) &&& Z) / 2147483648 : Nat)) : Int) := by omega
  rw [this, b]
  congr 2
  by_cases c1 : X / 2147483648 = 0 <;> by_cases c2 : Y / 2147483648 = 0 <;> simp only [c1, c2, if_true, if_false] <;> by_cases c3 : (X : Int) < Y + c <;> simp only [c3, if_true, if_false] <;> omega
def subRec : List Int → List Int → Int → List Int
  | [], _, _ => []
  | x :: a, b, c => ((x - b.headD 0 - c) % 4294967296) :: subRec a b.tail (if x < b.headD 0 + c then 1 else 0)
theorem subRec_V {a b : List Int} {c : Int} (ha : Dg a) (hb : Dg b) (hc : 0 ≤ c ∧ c ≤ 1) (hl : b.length ≤ a.length) (h : V b + c.toNat ≤ V a) : V (subRec a b c) = V a - V b - c.toNat ∧ Dg (subRec a b c) := by
  induction a generalizing b c with
  | nil =>
    have : b = [] := List.eq_nil_of_length_eq_zero (by simpa using hl)
    subst this
    exact ⟨by simp [subRec], Dg.nil⟩
  | cons x a ih =>
    have hx := ha.head
    have hy := hb.headD
    rw [V_headtail b, V_cons] at h
    have := ih (b := b.tail) (c := if x < b.headD 0 + c then 1 else 0) ha.tail hb.tl (by split <;> omega) (by simp at hl ⊢; omega) (by split <;> omega)
    refine ⟨?_, Dg.cons (by omega) (by omega) this.2⟩
    rw [subRec, V_cons, this.1, V_headtail b, V_cons]
    split <;> omega
theorem sub_l0 (A Bl : List Int) (hA : Dg A) (hB : Dg Bl) (hl : A.length < 1152921504606846976) : ∀ (a done r : List Int) (c : Int) (pa : List Int), A = pa ++ a → done.length = pa.length → r.length = a.length → 0 ≤ c ∧ c ≤ 1 → Dg done →
    Ev (fun k => nat_sub.l0 k A Bl (done ++ r) c A.length done.length) (D (V (done ++ subRec a (Bl.drop done.length) c)))
  | [], done, r, c, pa, he, hd, hr, hc, hg => by
    have : r = [] := List.eq_nil_of_length_eq_zero hr
    subst this
    have hlen : A.length = done.length := by rw [he, hd]; simp
    refine ev_step ?_
    simp only [nat_sub.l0]
    (repeat (first | (with_reducible refine ev_pos ?_ ?_; focus (first | omega | assumption | (simp; done) | (simp; omega))) | (with_reducible refine ev_neg ?_ ?_; focus (first | omega | assumption | (simp; done) | (simp; omega)))))
    refine Ev.bind (nat_trim_ev (hg.app Dg.nil) (by simp; omega)) ?_
    exact Ev.now _
  | x :: a, done, r, c, pa, he, hd, hr, hc, hg => by
    obtain ⟨y, r, rfl⟩ : ∃ y r', r = y :: r' := by
      match r, hr with
      | y :: r', _ => exact ⟨y, r', rfl⟩
    have hlen : A.length = done.length + 1 + a.length := by rw [he, hd]; simp; omega
    refine ev_step ?_
    simp only [nat_sub.l0, w64s (n := done.length) (by omega)]
    (repeat (first | (with_reducible refine ev_pos ?_ ?_; focus (first | omega | assumption | (simp; done) | (simp; omega))) | (with_reducible refine ev_neg ?_ ?_; focus (first | omega | assumption | (simp; done) | (simp; omega)))))
    have hx : rd A (done.length : Int) = x := by rw [he]; exact rd_app (by omega)
    have hxr : 0 ≤ x ∧ x < 4294967296 := by rw [he] at hA; exact hA.right.head
    have hyr := (hB.drop done.length).headD
    have key : ∀ z, z = (Bl.drop done.length).headD 0 → Ev (fun k => (bits_Sub32.f x z c).bind fun bt => if (done.length : Int) < ((done ++ y :: r).length : Int) then nat_sub.l0 k A Bl ((done ++ y :: r).set (done.length : Int).toNat bt.1) bt.2 A.length ((done.length + 1 : Nat) : Int) else none) (D (V (done ++ subRec (x :: a) (Bl.drop done.length) c))) := by
      rintro z rfl
      refine ev_bind (sub32_eq hxr hyr hc) ?_
      (repeat (first | (with_reducible refine ev_pos ?_ ?_; focus (first | omega | assumption | (simp; done) | (simp; omega))) | (with_reducible refine ev_neg ?_ ?_; focus (first | omega | assumption | (simp; done) | (simp; omega)))))
      rw [set_app rfl]
      have := sub_l0 A Bl hA hB hl a (done ++ [(x - (Bl.drop done.length).headD 0 - c) % 4294967296]) r (if x < (Bl.drop done.length).headD 0 + c then 1 else 0) (pa ++ [x]) (by rw [he]; simp) (by simp [hd]) (by simpa using hr) (by split <;> omega) (hg.app (Dg.cons (by omega) (by omega) Dg.nil))
      rw [List.length_append, List.length_singleton] at this
      refine ev_eq this ?_
      rw [subRec, List.tail_drop]; simp
    have jn : ∀ z, z = (Bl.drop done.length).headD 0 → Ev (fun n => nat_sub.j1 n A Bl (done ++ y :: r) c (done.length : Int) z A.length (done.length : Int)) (D (V (done ++ subRec (x :: a) (Bl.drop done.length) c))) := by
      intro z hz
      refine ev_step ?_
      simp only [nat_sub.j1, w64s (n := done.length) (by omega)]
      (repeat (first | (with_reducible refine ev_pos ?_ ?_; focus (first | omega | assumption | (simp; done) | (simp; omega))) | (with_reducible refine ev_neg ?_ ?_; focus (first | omega | assumption | (simp; done) | (simp; omega)))))
      rw [hx]
      have h0 : (0 : Int) ≤ (done.length : Int) := by omega
      have := key z hz
      simp only [h0, if_true]
      exact this
    by_cases hb : (done.length : Int) < (Bl.length : Int)
    · (repeat (first | (with_reducible refine ev_pos ?_ ?_; focus (first | omega | assumption | (simp; done) | (simp; omega))) | (with_reducible refine ev_neg ?_ ?_; focus (first | omega | assumption | (simp; done) | (simp; omega)))))
      exact jn _ (by rw [drop_headD, rdn])
    · (repeat (first | (with_reducible refine ev_pos ?_ ?_; focus (first | omega | assumption | (simp; done) | (simp; omega))) | (with_reducible refine ev_neg ?_ ?_; focus (first | omega | assumption | (simp; done) | (simp; omega)))))
      exact jn 0 (by rw [List.drop_eq_nil_of_le (by omega)]; rfl)
theorem nat_sub_ev {a b : List Int} (ha : Nm a) (hb : Nm b) (la : a.length ≤ 1000000) (h : V b ≤ V a) : Ev (fun k => nat_sub.f k a b) (D (V a - V b)) := by
  unfold nat_sub.f
  (repeat (first | (with_reducible refine ev_pos ?_ ?_; focus (first | omega | assumption | (simp; done) | (simp; omega))) | (with_reducible refine ev_neg ?_ ?_; focus (first | omega | assumption | (simp; done) | (simp; omega)))))
  have hl : b.length ≤ a.length := by rw [← ha.len, ← hb.len]; exact D_len_mono h
  have := sub_l0 a b ha.dg hb.dg (by omega) a [] (List.replicate a.length 0) 0 [] rfl rfl (by simp) (by omega) Dg.nil
  refine ev_eq this ?_
  have h2 := subRec_V ha.dg hb.dg (c := 0) (by omega) hl (by simpa using h)
  simp [h2.1]
def subR (m n : Nat) : List Int × Int := if m < n then ([], 10) else (D (m - n), 0)
theorem nat_Sub_ev {a b : List Int} (ha : Nm a) (hb : Nm b) (la : a.length ≤ 4096) (lb : b.length ≤ 4096) : Ev (fun k => nat_Sub.f k a b) (subR (V a) (V b)) := by
  unfold nat_Sub.f subR
  refine Ev.bind (all2_ev ha.dg hb.dg (by omega) (by omega)) ?_
  have h1 : may a = true := may_iff.2 ⟨la, ha⟩
  have h2 : may b = true := may_iff.2 ⟨lb, hb⟩
  refine ev_neg (by simp [h1, h2]) (Ev.bind (nat_cmp_ev ha hb (by omega)) ?_)
  by_cases c : V a < V b
  · rw [if_pos c]
    refine ev_pos ?_ (Ev.now _)
    unfold cmpN; rw [if_pos c]; decide
  · rw [if_neg c]
    refine ev_neg ?_ (Ev.bind (nat_sub_ev ha hb (by omega) (by omega)) (Ev.now _))
    unfold cmpN; rw [if_neg c]; split <;> decide
/-! ### the references' sums and differences: appended digit by digit -/
theorem radd_l0 (A Bl : List Int) (hA : Dg A) (hB : Dg Bl) (hl : A.length < 1000000000) (hl2 : Bl.length < 1000000000) : ∀ (d : Nat) (done : List Int) (c : Int), done.length + d = max A.length Bl.length → 0 ≤ c ∧ c ≤ 1 → Dg done →
    V done + 4294967296 ^ done.length * (V (A.drop done.length) + V (Bl.drop done.length) + c.toNat) = V A + V Bl →
    Ev (fun k => cutplaneref01_Add.l0 k A Bl done c done.length) (D (V A + V Bl))
  | 0, done, c, hd, hc, hg, hv => by
    refine ev_step ?_
    simp only [cutplaneref01_Add.l0]
    (repeat (first | (with_reducible refine ev_pos ?_ ?_; focus (first | omega | assumption | (simp; done) | (simp; omega))) | (with_reducible refine ev_neg ?_ ?_; focus (first | omega | assumption | (simp; done) | (simp; omega)))))
    have e : c % 4294967296 = c := by omega
    rw [e]
    refine Ev.bind (ref_Trim_ev (hg.app (Dg.cons hc.1 (by omega) Dg.nil)) (by simp; omega)) ?_
    refine ev_eq (Ev.now _) ?_
    rw [List.drop_eq_nil_of_le (by omega), List.drop_eq_nil_of_le (by omega)] at hv
    rw [V_append, ← hv]; simp
  | d + 1, done, c, hd, hc, hg, hv => by
    have ha := hA.rd (done.length : Int)
    have hb := hB.rd (done.length : Int)
    have hx := V_headtail (A.drop done.length)
    have hy := V_headtail (Bl.drop done.length)
    rw [drop_headD, List.tail_drop] at hx hy
    -- one round, whatever the digits
    have key : ∀ (s : Int), s = A.getD done.length 0 + Bl.getD done.length 0 + c → Ev (fun k => cutplaneref01_Add.l0 k A Bl (done ++ [s % 4294967296]) (s / 4294967296) ((done.length + 1 : Nat) : Int)) (D (V A + V Bl)) := by
      intro s hs
      have ha' := hA.getD done.length
      have hb' := hB.getD done.length
      have := radd_l0 A Bl hA hB hl hl2 d (done ++ [s % 4294967296]) (s / 4294967296) (by simp; omega) (by omega) (hg.app (Dg.cons (by omega) (by omega) Dg.nil)) (by
        rw [V_append, List.length_append, List.length_singleton, Nat.pow_succ, Nat.mul_assoc, Nat.add_assoc, ← Nat.mul_add, ← hv]
        congr 2
        simp only [V_cons, V_nil]
        omega)
      rwa [List.length_append, List.length_singleton] at this
    have hr : ∀ l : List Int, rd l (done.length : Int) = l.getD done.length 0 := fun l => rdn l _
    refine ev_step ?_
    simp only [cutplaneref01_Add.l0]
    by_cases c1 : done.length < A.length
    · (repeat (first | (with_reducible refine ev_pos ?_ ?_; focus (first | omega | assumption | (simp; done) | (simp; omega))) | (with_reducible refine ev_neg ?_ ?_; focus (first | omega | assumption | (simp; done) | (simp; omega)))))
      refine ev_step ?_
      simp only [cutplaneref01_Add.j2]
      by_cases c2 : done.length < Bl.length
      · (repeat (first | (with_reducible refine ev_pos ?_ ?_; focus (first | omega | assumption | (simp; done) | (simp; omega))) | (with_reducible refine ev_neg ?_ ?_; focus (first | omega | assumption | (simp; done) | (simp; omega)))))
        refine ev_step ?_
        simp only [cutplaneref01_Add.j3, w64s (n := done.length) (by omega)]
        (repeat (first | (with_reducible refine ev_pos ?_ ?_; focus (first | omega | assumption | (simp; done) | (simp; omega))) | (with_reducible refine ev_neg ?_ ?_; focus (first | omega | assumption | (simp; done) | (simp; omega)))))
        rw [u64 ha.1 (by omega), u64 hb.1 (by omega), u64 (n := c + rd A (done.length : Int)) (by omega) (by omega), u64 (by omega) (by omega)]
        exact key _ (by rw [hr, hr]; omega)
      · (repeat (first | (with_reducible refine ev_pos ?_ ?_; focus (first | omega | assumption | (simp; done) | (simp; omega))) | (with_reducible refine ev_neg ?_ ?_; focus (first | omega | assumption | (simp; done) | (simp; omega)))))
        refine ev_step ?_
        simp only [cutplaneref01_Add.j3, w64s (n := done.length) (by omega)]
        (repeat (first | (with_reducible refine ev_pos ?_ ?_; focus (first | omega | assumption | (simp; done) | (simp; omega))) | (with_reducible refine ev_neg ?_ ?_; focus (first | omega | assumption | (simp; done) | (simp; omega)))))
        rw [u64 ha.1 (by omega), u64 (by omega) (by omega)]
        refine key _ ?_
        have : Bl.getD done.length 0 = 0 := by rw [List.getD_eq_getElem?_getD, List.getElem?_eq_none (by omega)]; rfl
        rw [hr, this]; omega
    · (repeat (first | (with_reducible refine ev_pos ?_ ?_; focus (first | omega | assumption | (simp; done) | (simp; omega))) | (with_reducible refine ev_neg ?_ ?_; focus (first | omega | assumption | (simp; done) | (simp; omega)))))
      have c2 : done.length < Bl.length := by omega
      refine ev_step ?_
      simp only [cutplaneref01_Add.j2]
      (repeat (first | (with_reducible refine ev_pos ?_ ?_; focus (first | omega | assumption | (simp; done) | (simp; omega))) | (with_reducible refine ev_neg ?_ ?_; focus (first | omega | assumption | (simp; done) | (simp; omega)))))
      refine ev_step ?_
      simp only [cutplaneref01_Add.j3, w64s (n := done.length) (by omega)]
      (repeat (first | (with_reducible refine ev_pos ?_ ?_; focus (first | omega | assumption | (simp; done) | (simp; omega))) | (with_reducible refine ev_neg ?_ ?_; focus (first | omega | assumption | (simp; done) | (simp; omega)))))
      rw [u64 hb.1 (by omega), u64 (by omega) (by omega)]
      refine key _ ?_
      have : A.getD done.length 0 = 0 := by rw [List.getD_eq_getElem?_getD, List.getElem?_eq_none (by omega)]; rfl
      rw [hr, this]; omega
theorem ref_Add_ev {a b : List Int} (ha : Dg a) (hb : Dg b) (la : a.length < 1000000000) (lb : b.length < 1000000000) : Ev (fun k => cutplaneref01_Add.f k a b) (D (V a + V b)) := by
  unfold cutplaneref01_Add.f
  have := radd_l0 a b ha hb la lb (max a.length b.length) [] 0 (by simp) (by omega) Dg.nil (by simp)
  simpa using this
theorem rsub_l0 (A Bl : List Int) (hA : Dg A) (hB : Dg Bl) (hl : A.length < 1000000000) : ∀ (d : Nat) (done : List Int) (c : Int), done.length + d = A.length → 0 ≤ c ∧ c ≤ 1 → Dg done →
    Ev (fun k => cutplaneref01_Sub.l0 k A Bl done c done.length) (D (V (done ++ subRec (A.drop done.length) (Bl.drop done.length) c)))
  | 0, done, c, hd, hc, hg => by
    refine ev_step ?_
    simp only [cutplaneref01_Sub.l0]
    (repeat (first | (with_reducible refine ev_pos ?_ ?_; focus (first | omega | assumption | (simp; done) | (simp; omega))) | (with_reducible refine ev_neg ?_ ?_; focus (first | omega | assumption | (simp; done) | (simp; omega)))))
    rw [List.drop_eq_nil_of_le (show A.length ≤ done.length by omega)]
    simp only [subRec, List.append_nil]
    refine Ev.bind (ref_Trim_ev hg (by omega)) ?_
    exact Ev.now _
  | d + 1, done, c, hd, hc, hg => by
    have ha := hA.rd (done.length : Int)
    have hb := hB.rd (done.length : Int)
    have hc1 : done.length < A.length := by omega
    have hx : A.drop done.length = A.getD done.length 0 :: A.drop (done.length + 1) := by
      rw [List.drop_eq_getElem_cons hc1]; simp [hc1]
    have key : ∀ (s z : Int), z = Bl.getD done.length 0 → s % 4294967296 = (A.getD done.length 0 - z - c) % 4294967296 → ∀ c', c' = (if A.getD done.length 0 < z + c then 1 else 0) → Ev (fun k => cutplaneref01_Sub.l0 k A Bl (done ++ [s % 4294967296]) c' ((done.length + 1 : Nat) : Int)) (D (V (done ++ subRec (A.drop done.length) (Bl.drop done.length) c))) := by
      rintro s z rfl hs c' rfl
      have := rsub_l0 A Bl hA hB hl d (done ++ [s % 4294967296]) (if A.getD done.length 0 < Bl.getD done.length 0 + c then 1 else 0) (by simp; omega) (by split <;> omega) (hg.app (Dg.cons (by omega) (by omega) Dg.nil))
      rw [List.length_append, List.length_singleton] at this
      refine ev_eq this ?_
      rw [hx, subRec, drop_headD, List.tail_drop, hs]; simp
    have hr : ∀ l : List Int, rd l (done.length : Int) = l.getD done.length 0 := fun l => rdn l _
    refine ev_step ?_
    simp only [cutplaneref01_Sub.l0, w64s (n := done.length) (by omega)]
    (repeat (first | (with_reducible refine ev_pos ?_ ?_; focus (first | omega | assumption | (simp; done) | (simp; omega))) | (with_reducible refine ev_neg ?_ ?_; focus (first | omega | assumption | (simp; done) | (simp; omega)))))
    rw [hr] at ha hb
    by_cases c2 : done.length < Bl.length
    · (repeat (first | (with_reducible refine ev_pos ?_ ?_; focus (first | omega | assumption | (simp; done) | (simp; omega))) | (with_reducible refine ev_neg ?_ ?_; focus (first | omega | assumption | (simp; done) | (simp; omega)))))
      refine ev_step ?_
      simp only [cutplaneref01_Sub.j1]
      (repeat (first | (with_reducible refine ev_pos ?_ ?_; focus (first | omega | assumption | (simp; done) | (simp; omega))) | (with_reducible refine ev_neg ?_ ?_; focus (first | omega | assumption | (simp; done) | (simp; omega)))))
      rw [hr, hr, u64 ha.1 (by omega), u64 hb.1 (by omega), u64 (n := c + Bl.getD done.length 0) (by omega) (by omega)]
      by_cases c3 : A.getD done.length 0 < c + Bl.getD done.length 0
      · (repeat (first | (with_reducible refine ev_pos ?_ ?_; focus (first | omega | assumption | (simp; done) | (simp; omega))) | (with_reducible refine ev_neg ?_ ?_; focus (first | omega | assumption | (simp; done) | (simp; omega)))))
        rw [u64 (n := A.getD done.length 0 + 4294967296) (by omega) (by omega)]
        refine ev_step ?_
        simp only [cutplaneref01_Sub.j2, w64s (n := done.length) (by omega)]
        (repeat (first | (with_reducible refine ev_pos ?_ ?_; focus (first | omega | assumption | (simp; done) | (simp; omega))) | (with_reducible refine ev_neg ?_ ?_; focus (first | omega | assumption | (simp; done) | (simp; omega)))))
        rw [u64 (by omega) (by omega)]
        exact key _ (Bl.getD done.length 0) rfl (by omega) 1 (by rw [if_pos (by omega)])
      · (repeat (first | (with_reducible refine ev_pos ?_ ?_; focus (first | omega | assumption | (simp; done) | (simp; omega))) | (with_reducible refine ev_neg ?_ ?_; focus (first | omega | assumption | (simp; done) | (simp; omega)))))
        refine ev_step ?_
        simp only [cutplaneref01_Sub.j2, w64s (n := done.length) (by omega)]
        (repeat (first | (with_reducible refine ev_pos ?_ ?_; focus (first | omega | assumption | (simp; done) | (simp; omega))) | (with_reducible refine ev_neg ?_ ?_; focus (first | omega | assumption | (simp; done) | (simp; omega)))))
        rw [u64 (by omega) (by omega)]
        exact key _ (Bl.getD done.length 0) rfl (by omega) 0 (by rw [if_neg (by omega)])
    · (repeat (first | (with_reducible refine ev_pos ?_ ?_; focus (first | omega | assumption | (simp; done) | (simp; omega))) | (with_reducible refine ev_neg ?_ ?_; focus (first | omega | assumption | (simp; done) | (simp; omega)))))
      have hz : Bl.getD done.length 0 = 0 := by rw [List.getD_eq_getElem?_getD, List.getElem?_eq_none (by omega)]; rfl
      refine ev_step ?_
      simp only [cutplaneref01_Sub.j1]
      (repeat (first | (with_reducible refine ev_pos ?_ ?_; focus (first | omega | assumption | (simp; done) | (simp; omega))) | (with_reducible refine ev_neg ?_ ?_; focus (first | omega | assumption | (simp; done) | (simp; omega)))))
      rw [hr, u64 ha.1 (by omega)]
      by_cases c3 : A.getD done.length 0 < c
      · (repeat (first | (with_reducible refine ev_pos ?_ ?_; focus (first | omega | assumption | (simp; done) | (simp; omega))) | (with_reducible refine ev_neg ?_ ?_; focus (first | omega | assumption | (simp; done) | (simp; omega)))))
        rw [u64 (n := A.getD done.length 0 + 4294967296) (by omega) (by omega)]
        refine ev_step ?_
        simp only [cutplaneref01_Sub.j2, w64s (n := done.length) (by omega)]
        (repeat (first | (with_reducible refine ev_pos ?_ ?_; focus (first | omega | assumption | (simp; done) | (simp; omega))) | (with_reducible refine ev_neg ?_ ?_; focus (first | omega | assumption | (simp; done) | (simp; omega)))))
        rw [u64 (by omega) (by omega)]
        exact key _ (Bl.getD done.length 0) rfl (by omega) 1 (by rw [if_pos (by omega)])
      · (repeat (first | (with_reducible refine ev_pos ?_ ?_; focus (first | omega | assumption | (simp; done) | (simp; omega))) | (with_reducible refine ev_neg ?_ ?_; focus (first | omega | assumption | (simp; done) | (simp; omega)))))
        refine ev_step ?_
        simp only [cutplaneref01_Sub.j2, w64s (n := done.length) (by omega)]
        (repeat (first | (with_reducible refine ev_pos ?_ ?_; focus (first | omega | assumption | (simp; done) | (simp; omega))) | (with_reducible refine ev_neg ?_ ?_; focus (first | omega | assumption | (simp; done) | (simp; omega)))))
        rw [u64 (by omega) (by omega)]
        exact key _ (Bl.getD done.length 0) rfl (by omega) 0 (by rw [if_neg (by omega)])
theorem ref_Sub_ev {a b : List Int} (ha : Nm a) (hb : Nm b) (la : a.length < 1000000000) (h : V b ≤ V a) : Ev (fun k => cutplaneref01_Sub.f k a b) (D (V a - V b)) := by
  unfold cutplaneref01_Sub.f
  have hl : b.length ≤ a.length := by rw [← ha.len, ← hb.len]; exact D_len_mono h
  have := rsub_l0 a b ha.dg hb.dg la a.length [] 0 (by simp) (by omega) Dg.nil
  refine ev_eq this ?_
  have h2 := subRec_V ha.dg hb.dg (c := 0) (by omega) hl (by simpa using h)
  simp [h2.1]
end Go.Proofs.YtclegbgmhimenaaDoor.Eng.K

/- The first layer's plain functions: products. -/
set_option linter.unusedVariables false
set_option linter.unusedSimpArgs false
namespace Go.Proofs.YtclegbgmhimenaaDoor.Eng.K
open Go.RowKit

theorem D_len_pos {l : List Int} (h : Nm l) (h0 : l ≠ []) : 4294967296 ^ (l.length - 1) ≤ V l := by
  have h1 : V l ≠ 0 := fun e => h0 ((V_eq_zero h).1 e)
  have := D_len_ge h1
  rwa [h.len] at this
def conv : List Int → List Int → Nat → Nat
  | [], _, _ => 0
  | x :: _, b, 0 => x.toNat * (b.getD 0 0).toNat
  | x :: a, b, k + 1 => x.toNat * (b.getD (k + 1) 0).toNat + conv a b k
end Go.Proofs.YtclegbgmhimenaaDoor.Eng.K

/- The first layer's statements: what they share. -/
set_option linter.unusedVariables false
set_option linter.unusedSimpArgs false
namespace Go.Proofs.YtclegbgmhimenaaDoor.Eng.K
open Go.RowKit

theorem V_bd {l : List Int} (h : Dg l) {n : Nat} (hn : l.length ≤ n) : V l < 4294967296 ^ n := Nat.lt_of_lt_of_le (V_lt h) (Nat.pow_le_pow_right (by omega) hn)
/-! ### a number's value as a word -/
theorem or_u64_disjoint {x y : Int} (h0 : 0 ≤ x ∧ x < 4294967296) (h1 : 0 ≤ y ∧ y < 4294967296) : Go.bits .or .u64 x (y * 4294967296) = x + y * 4294967296 := by
  obtain ⟨X, rfl⟩ := Int.eq_ofNat_of_zero_le h0.1
  obtain ⟨Y, rfl⟩ := Int.eq_ofNat_of_zero_le h1.1
  have e : (Y : Int) * 4294967296 = ((2 ^ 32 * Y : Nat) : Int) := by omega
  rw [e, u64_or_nat _ _ (by omega) (by omega), Nat.or_comm, ← Nat.two_pow_add_eq_or_of_lt (by omega)]
  omega
theorem shl_zero {d : Int} (h : 0 ≤ d ∧ d < 4294967296) : shl .u64 d 0 = d := by
  unfold shl; simp; exact u64 h.1 (by omega)
theorem shl_32 {d : Int} (h : 0 ≤ d ∧ d < 4294967296) : shl .u64 d 32 = d * 4294967296 := by
  unfold shl
  have e : min (32 : Int).toNat IntKind.u64.bits = 32 := by decide
  rw [e, show (2 : Int) ^ 32 = 4294967296 from rfl, u64 (by omega) (by omega)]
def numB (l : List Int) : Bool := may l && decide (l.length ≤ 2)
theorem nat_Num_ev {l : List Int} (h : Dg l) (hb : l.length < 4611686018427387904) : Ev (fun k => nat_Num.f k l) (if numB l then ((V l : Nat) : Int) else 0, numB l) := by
  unfold nat_Num.f
  refine ev_bind (nat_May_eq h hb) ?_
  have no : numB l = false → Ev (fun _ : Nat => some ((0 : Int), false)) (if numB l then ((V l : Nat) : Int) else 0, numB l) := by
    intro e
    rw [e]
    exact Ev.now _
  by_cases c1 : may l = true
  · rw [c1]
    (repeat (first | (with_reducible refine ev_pos ?_ ?_; focus (first | omega | assumption | (simp; done) | (simp; omega))) | (with_reducible refine ev_neg ?_ ?_; focus (first | omega | assumption | (simp; done) | (simp; omega)))))
    by_cases c2 : l.length > 2
    · (repeat (first | (with_reducible refine ev_pos ?_ ?_; focus (first | omega | assumption | (simp; done) | (simp; omega))) | (with_reducible refine ev_neg ?_ ?_; focus (first | omega | assumption | (simp; done) | (simp; omega)))))
      exact no (by unfold numB; rw [decide_eq_false (by omega)]; simp)
    · (repeat (first | (with_reducible refine ev_pos ?_ ?_; focus (first | omega | assumption | (simp; done) | (simp; omega))) | (with_reducible refine ev_neg ?_ ?_; focus (first | omega | assumption | (simp; done) | (simp; omega)))))
      have e : numB l = true := by unfold numB; rw [c1, decide_eq_true (by omega)]; rfl
      rw [e]
      have w0 : wrap64 (32 * 0) = 0 := by unfold wrap64; omega
      have w1 : wrap64 (0 + 1) = 1 := by unfold wrap64; omega
      have w2 : wrap64 (32 * 1) = 32 := by unfold wrap64; omega
      have w3 : wrap64 (1 + 1) = 2 := by unfold wrap64; omega
      match l, h with
      | [], h =>
        refine ev_step ?_
        simp only [nat_Num.l0]
        (repeat (first | (with_reducible refine ev_pos ?_ ?_; focus (first | omega | assumption | (simp; done) | (simp; omega))) | (with_reducible refine ev_neg ?_ ?_; focus (first | omega | assumption | (simp; done) | (simp; omega))))); exact Ev.now _
      | [x], h =>
        have hx := h.head
        refine ev_step ?_
        simp only [nat_Num.l0, w0, w1]
        (repeat (first | (with_reducible refine ev_pos ?_ ?_; focus (first | omega | assumption | (simp; done) | (simp; omega))) | (with_reducible refine ev_neg ?_ ?_; focus (first | omega | assumption | (simp; done) | (simp; omega)))))
        have r0 : rd [x] 0 = x := rfl
        rw [r0, u64 hx.1 (by omega), shl_zero hx, u64_or _ _ (by omega) (by omega) (by omega) (by omega)]
        refine ev_step ?_
        simp only [nat_Num.l0]
        (repeat (first | (with_reducible refine ev_pos ?_ ?_; focus (first | omega | assumption | (simp; done) | (simp; omega))) | (with_reducible refine ev_neg ?_ ?_; focus (first | omega | assumption | (simp; done) | (simp; omega)))))
        refine ev_eq (Ev.now _) ?_
        simp
      | [x, y], h =>
        have hx := h.head
        have hy := h.tail.head
        refine ev_step ?_
        simp only [nat_Num.l0, w0, w1]
        (repeat (first | (with_reducible refine ev_pos ?_ ?_; focus (first | omega | assumption | (simp; done) | (simp; omega))) | (with_reducible refine ev_neg ?_ ?_; focus (first | omega | assumption | (simp; done) | (simp; omega)))))
        have r0 : rd [x, y] 0 = x := rfl
        have r1 : rd [x, y] 1 = y := rfl
        rw [r0, u64 hx.1 (by omega), shl_zero hx, u64_or _ _ (by omega) (by omega) (by omega) (by omega)]
        have z : (((0 : Int).toNat ||| x.toNat : Nat) : Int) = x := by simp; omega
        rw [z]
        refine ev_step ?_
        simp only [nat_Num.l0, w2, w3]
        (repeat (first | (with_reducible refine ev_pos ?_ ?_; focus (first | omega | assumption | (simp; done) | (simp; omega))) | (with_reducible refine ev_neg ?_ ?_; focus (first | omega | assumption | (simp; done) | (simp; omega)))))
        rw [r1, u64 (n := y) hy.1 (by omega), shl_32 hy, or_u64_disjoint hx hy]
        refine ev_step ?_
        simp only [nat_Num.l0]
        (repeat (first | (with_reducible refine ev_pos ?_ ?_; focus (first | omega | assumption | (simp; done) | (simp; omega))) | (with_reducible refine ev_neg ?_ ?_; focus (first | omega | assumption | (simp; done) | (simp; omega)))))
        refine ev_eq (Ev.now _) ?_
        simp; omega
      | x :: y :: z :: l, h => simp at c2
  · have c1 : may l = false := by simpa using c1
    rw [c1]
    (repeat (first | (with_reducible refine ev_pos ?_ ?_; focus (first | omega | assumption | (simp; done) | (simp; omega))) | (with_reducible refine ev_neg ?_ ?_; focus (first | omega | assumption | (simp; done) | (simp; omega))))); exact no (by unfold numB; simp [c1])
end Go.Proofs.YtclegbgmhimenaaDoor.Eng.K

/- The first layer's plain functions: the length of a number in bits. -/
set_option linter.unusedVariables false
set_option linter.unusedSimpArgs false
namespace Go.Proofs.YtclegbgmhimenaaDoor.Eng.K
open Go.RowKit

/-- how many bits -/
def bl (n : Nat) : Nat := if n = 0 then 0 else n.log2 + 1
theorem bl_zero : bl 0 = 0 := rfl
theorem bl_le {n : Nat} (h : n ≠ 0) : 2 ^ (bl n - 1) ≤ n := by
  unfold bl; rw [if_neg h]; exact Nat.log2_self_le h
theorem lt_bl (n : Nat) : n < 2 ^ bl n := by
  unfold bl
  split
  · subst n; simp
  · exact Nat.lt_log2_self
theorem bl_pos {n : Nat} (h : n ≠ 0) : 0 < bl n := by unfold bl; rw [if_neg h]; omega
theorem bl_le_of_lt {n k : Nat} (h : n < 2 ^ k) : bl n ≤ k := by
  by_cases e : n = 0
  · subst e; simp [bl_zero]
  · have h1 := bl_le e
    have h2 := bl_pos e
    have : bl n - 1 < k := (Nat.pow_lt_pow_iff_right (a := 2) (by omega)).1 (Nat.lt_of_le_of_lt h1 h)
    omega
theorem bl_unique {n k : Nat} (h1 : 2 ^ k ≤ n) (h2 : n < 2 ^ (k + 1)) : bl n = k + 1 := by
  have := bl_le_of_lt h2
  have h3 : 2 ^ k < 2 ^ bl n := Nat.lt_of_le_of_lt h1 (lt_bl n)
  have := (Nat.pow_lt_pow_iff_right (a := 2) (by omega)).1 h3
  omega
theorem bl_shift {n k : Nat} (h : 2 ^ k ≤ n) : bl n = k + bl (n / 2 ^ k) := by
  have hp : 0 < 2 ^ k := Nat.pow_pos (by omega)
  have h0 : n / 2 ^ k ≠ 0 := by
    have := (Nat.le_div_iff_mul_le hp (x := 1) (y := n)).2 (by omega)
    omega
  have h1 := bl_le h0
  have h2 := lt_bl (n / 2 ^ k)
  have h3 := bl_pos h0
  have e : k + bl (n / 2 ^ k) = (k + (bl (n / 2 ^ k) - 1)) + 1 := by omega
  rw [e]
  apply bl_unique
  · rw [Nat.pow_add]
    have := (Nat.le_div_iff_mul_le hp).1 h1
    rw [Nat.mul_comm]; exact this
  · have := (Nat.div_lt_iff_lt_mul hp).1 h2
    rw [show k + (bl (n / 2 ^ k) - 1) + 1 = bl (n / 2 ^ k) + k by omega, Nat.pow_add]
    exact this
theorem bl_step {n : Nat} (h : n ≠ 0) : bl n = bl (n / 2) + 1 := by
  by_cases h1 : n = 1
  · subst h1; rfl
  · have := bl_shift (n := n) (k := 1) (by omega)
    simp at this; omega
theorem bl_mono {a b : Nat} (h : a ≤ b) : bl a ≤ bl b := bl_le_of_lt (Nat.lt_of_le_of_lt h (lt_bl b))

def tab8 : ByteArray := ⟨#[0, 1, 2, 2, 3, 3, 3, 3, 4, 4, 4, 4, 4, 4, 4, 4, 5, 5, 5, 5, 5, 5, 5, 5, 5, 5, 5, 5, 5, 5, 5, 5, 6, 6, 6, 6, 6, 6, 6, 6, 6, 6, 6, 6, 6, 6, 6, 6, 6, 6, 6, 6, 6, 6, 6, 6, 6, 6, 6, 6, 6, 6, 6, 6, 7, 7, 7, 7, 7, 7, 7, 7, 7, 7, 7, 7, 7, 7, 7, 7, 7, 7, 7, 7, 7, 7, 7, 7, 7, 7, 7, 7, 7, 7, 7, 7, 7, 7, 7, 7, 7, 7, 7, 7, 7, 7, 7, 7, 7, 7, 7, 7, 7, 7, 7, 7, 7, 7, 7, 7, 7, 7, 7, 7, 7, 7, 7, 7, 8, 8, 8, 8, 8, 8, 8, 8, 8, 8, 8, 8, 8, 8, 8, 8, 8, 8, 8, 8, 8, 8, 8, 8, 8, 8, 8, 8, 8, 8, 8, 8, 8, 8, 8, 8, 8, 8, 8, 8, 8, 8, 8, 8, 8, 8, 8, 8, 8, 8, 8, 8, 8, 8, 8, 8, 8, 8, 8, 8, 8, 8, 8, 8, 8, 8, 8, 8, 8, 8, 8, 8, 8, 8, 8, 8, 8, 8, 8, 8, 8, 8, 8, 8, 8, 8, 8, 8, 8, 8, 8, 8, 8, 8, 8, 8, 8, 8, 8, 8, 8, 8, 8, 8, 8, 8, 8, 8, 8, 8, 8, 8, 8, 8, 8, 8, 8, 8, 8, 8, 8, 8, 8, 8, 8, 8, 8, 8]⟩
theorem tab8_eq : (List.range 256).all (fun i => bt tab8 (i : Int) == (bl i : Int)) = true := by decide +kernel
theorem bt8 {t : ByteArray} {n : Nat} (h : n < 256) (ht : t = tab8) : bt t (n : Int) = (bl n : Int) := by
  subst ht
  have := List.all_eq_true.1 tab8_eq n (List.mem_range.2 h)
  exact eq_of_beq this
theorem bl_small {n : Nat} (h : n < 256) : bl n ≤ 8 := bl_le_of_lt h
theorem txt0_size : txt0.size = 256 := by decide +kernel
theorem len32_j1 {n : Nat} (h : n < 256) {m : Int} (hm : 0 ≤ m ∧ m ≤ 64) : Ev (fun k => bits_Len32.j1 k (n : Int) m) (m + (bl n : Nat)) := by
  refine ev_step ?_
  simp only [bits_Len32.j1]
  have e : (n : Int) % 256 = n := by omega
  have l := bl_small h
  rw [e, txt0_size]
  (repeat (first | (with_reducible refine ev_pos ?_ ?_; focus (first | omega | assumption | (simp; done) | (simp; omega))) | (with_reducible refine ev_neg ?_ ?_; focus (first | omega | assumption | (simp; done) | (simp; omega)))))
  rw [bt8 h (by rfl), w64n (n := ((bl n : Nat) : Int)) (by omega) (by omega), w64n (by omega) (by omega)]
  exact Ev.now _
theorem len32_j0 {n : Nat} (h : n < 65536) {m : Int} (hm : 0 ≤ m ∧ m ≤ 32) : Ev (fun k => bits_Len32.j0 k (n : Int) m) (m + (bl n : Nat)) := by
  refine ev_step ?_
  simp only [bits_Len32.j0]
  by_cases c : n ≥ 256
  · (repeat (first | (with_reducible refine ev_pos ?_ ?_; focus (first | omega | assumption | (simp; done) | (simp; omega))) | (with_reducible refine ev_neg ?_ ?_; focus (first | omega | assumption | (simp; done) | (simp; omega)))))
    have e2 : bl n = 8 + bl (n / 256) := bl_shift (k := 8) c
    have := len32_j1 (n := n / 256) (by omega) (m := m + 8) (by omega)
    rw [w64n (by omega) (by omega), show (n : Int) / 256 = ((n / 256 : Nat) : Int) by omega]
    exact ev_eq this (by rw [e2]; omega)
  · (repeat (first | (with_reducible refine ev_pos ?_ ?_; focus (first | omega | assumption | (simp; done) | (simp; omega))) | (with_reducible refine ev_neg ?_ ?_; focus (first | omega | assumption | (simp; done) | (simp; omega)))))
    exact len32_j1 (by omega) (by omega)
theorem len32_ev {x : Int} (h : 0 ≤ x ∧ x < 4294967296) : Ev (fun k => bits_Len32.f k x) ((bl x.toNat : Nat) : Int) := by
  obtain ⟨n, rfl⟩ := Int.eq_ofNat_of_zero_le h.1
  unfold bits_Len32.f
  rw [Int.toNat_natCast]
  by_cases c : n ≥ 65536
  · (repeat (first | (with_reducible refine ev_pos ?_ ?_; focus (first | omega | assumption | (simp; done) | (simp; omega))) | (with_reducible refine ev_neg ?_ ?_; focus (first | omega | assumption | (simp; done) | (simp; omega)))))
    have e1 : bl n = 16 + bl (n / 65536) := bl_shift (k := 16) c
    rw [show (n : Int) / 65536 = ((n / 65536 : Nat) : Int) by omega]
    exact ev_eq (len32_j0 (by omega) (by omega)) (by rw [e1]; omega)
  · (repeat (first | (with_reducible refine ev_pos ?_ ?_; focus (first | omega | assumption | (simp; done) | (simp; omega))) | (with_reducible refine ev_neg ?_ ?_; focus (first | omega | assumption | (simp; done) | (simp; omega)))))
    exact ev_eq (len32_j0 (by omega) (by omega)) (by omega)
theorem len64_j2 {n : Nat} (h : n < 256) {m : Int} (hm : 0 ≤ m ∧ m ≤ 128) : Ev (fun k => bits_Len64.j2 k (n : Int) m) (m + (bl n : Nat)) := by
  refine ev_step ?_
  simp only [bits_Len64.j2]
  have e : (n : Int) % 256 = n := by omega
  have l := bl_small h
  rw [e, txt0_size]
  (repeat (first | (with_reducible refine ev_pos ?_ ?_; focus (first | omega | assumption | (simp; done) | (simp; omega))) | (with_reducible refine ev_neg ?_ ?_; focus (first | omega | assumption | (simp; done) | (simp; omega)))))
  rw [bt8 h (by rfl), w64n (n := ((bl n : Nat) : Int)) (by omega) (by omega), w64n (by omega) (by omega)]
  exact Ev.now _
theorem len64_j1 {n : Nat} (h : n < 65536) {m : Int} (hm : 0 ≤ m ∧ m ≤ 100) : Ev (fun k => bits_Len64.j1 k (n : Int) m) (m + (bl n : Nat)) := by
  refine ev_step ?_
  simp only [bits_Len64.j1]
  by_cases c : n ≥ 256
  · (repeat (first | (with_reducible refine ev_pos ?_ ?_; focus (first | omega | assumption | (simp; done) | (simp; omega))) | (with_reducible refine ev_neg ?_ ?_; focus (first | omega | assumption | (simp; done) | (simp; omega)))))
    have e2 : bl n = 8 + bl (n / 256) := bl_shift (k := 8) c
    have := len64_j2 (n := n / 256) (by omega) (m := m + 8) (by omega)
    rw [w64n (by omega) (by omega), show (n : Int) / 256 = ((n / 256 : Nat) : Int) by omega]
    exact ev_eq this (by rw [e2]; omega)
  · (repeat (first | (with_reducible refine ev_pos ?_ ?_; focus (first | omega | assumption | (simp; done) | (simp; omega))) | (with_reducible refine ev_neg ?_ ?_; focus (first | omega | assumption | (simp; done) | (simp; omega)))))
    exact len64_j2 (by omega) (by omega)
theorem len64_j0 {n : Nat} (h : n < 4294967296) {m : Int} (hm : 0 ≤ m ∧ m ≤ 64) : Ev (fun k => bits_Len64.j0 k n m) (m + (bl n : Nat)) := by
  refine ev_step ?_
  simp only [bits_Len64.j0]
  by_cases c : n ≥ 65536
  · (repeat (first | (with_reducible refine ev_pos ?_ ?_; focus (first | omega | assumption | (simp; done) | (simp; omega))) | (with_reducible refine ev_neg ?_ ?_; focus (first | omega | assumption | (simp; done) | (simp; omega)))))
    have e2 : bl n = 16 + bl (n / 65536) := bl_shift (k := 16) c
    have := len64_j1 (n := n / 65536) (by omega) (m := m + 16) (by omega)
    rw [w64n (by omega) (by omega), show (n : Int) / 65536 = ((n / 65536 : Nat) : Int) by omega]
    exact ev_eq this (by rw [e2]; omega)
  · (repeat (first | (with_reducible refine ev_pos ?_ ?_; focus (first | omega | assumption | (simp; done) | (simp; omega))) | (with_reducible refine ev_neg ?_ ?_; focus (first | omega | assumption | (simp; done) | (simp; omega)))))
    exact len64_j1 (by omega) (by omega)
theorem len64_ev {x : Int} (h : 0 ≤ x ∧ x < 18446744073709551616) : Ev (fun k => bits_Len64.f k x) ((bl x.toNat : Nat) : Int) := by
  obtain ⟨n, rfl⟩ := Int.eq_ofNat_of_zero_le h.1
  rw [Int.toNat_natCast]
  unfold bits_Len64.f
  by_cases c : n ≥ 4294967296
  · (repeat (first | (with_reducible refine ev_pos ?_ ?_; focus (first | omega | assumption | (simp; done) | (simp; omega))) | (with_reducible refine ev_neg ?_ ?_; focus (first | omega | assumption | (simp; done) | (simp; omega)))))
    have e : bl n = 32 + bl (n / 4294967296) := bl_shift (k := 32) c
    have := len64_j0 (n := n / 4294967296) (by omega) (m := 32) (by omega)
    refine ev_eq this ?_
    omega
  · (repeat (first | (with_reducible refine ev_pos ?_ ?_; focus (first | omega | assumption | (simp; done) | (simp; omega))) | (with_reducible refine ev_neg ?_ ?_; focus (first | omega | assumption | (simp; done) | (simp; omega)))))
    have := len64_j0 (n := n) (by omega) (m := 0) (by omega)
    exact ev_eq this (by omega)

/-! ### the references' length -/
theorem rlen_l0 : ∀ (n : Nat) (m : Int), 0 ≤ m ∧ m + (bl n : Nat) < 4611686018427387904 → n < 4294967296 → Ev (fun k => cutplaneref01_Len.l0 k m n) (m + (bl n : Nat)) := by
  intro n
  induction n using Nat.strongRecOn with
  | _ n ih =>
    intro m hm hn
    refine ev_step ?_
    simp only [cutplaneref01_Len.l0]
    by_cases c : n = 0
    · subst c
      (repeat (first | (with_reducible refine ev_pos ?_ ?_; focus (first | omega | assumption | (simp; done) | (simp; omega))) | (with_reducible refine ev_neg ?_ ?_; focus (first | omega | assumption | (simp; done) | (simp; omega)))))
      exact ev_eq (Ev.now _) (by simp [bl_zero])
    · (repeat (first | (with_reducible refine ev_pos ?_ ?_; focus (first | omega | assumption | (simp; done) | (simp; omega))) | (with_reducible refine ev_neg ?_ ?_; focus (first | omega | assumption | (simp; done) | (simp; omega)))))
      have e : (n : Int) / 2 = ((n / 2 : Nat) : Int) := by omega
      have hb := bl_step c
      rw [e, w64n (by omega) (by omega)]
      refine ev_eq (ih (n / 2) (by omega) (m + 1) (by omega) (by omega)) ?_
      omega
/-- the bits of a list: its highest digit's, and 32 for each other one -/
theorem bl_V {l : List Int} (h : Nm l) (h0 : l ≠ []) : bl (V l) = 32 * (l.length - 1) + bl (l.getD (l.length - 1) 0).toNat := by
  rcases List.eq_nil_or_concat l with rfl | ⟨a, d, rfl⟩
  · exact absurd rfl h0
  rw [List.concat_eq_append] at h ⊢
  have hd := h.dg d (by simp)
  have hn := Nm_last h
  have e : (a ++ [d]).getD ((a ++ [d]).length - 1) 0 = d := by simp
  rw [e]
  have hl : (a ++ [d]).length - 1 = a.length := by simp
  rw [hl, V_append]
  simp only [V_cons, V_nil, Nat.mul_zero, Nat.add_zero]
  have hv := V_lt h.dg.left
  have hp : (4294967296 : Nat) ^ a.length = 2 ^ (32 * a.length) := by rw [Nat.pow_mul]
  rw [hp] at hv ⊢
  have hpos : 0 < 2 ^ (32 * a.length) := Nat.pow_pos (by omega)
  have hd1 : 2 ^ (32 * a.length) * 1 ≤ 2 ^ (32 * a.length) * d.toNat := Nat.mul_le_mul_left _ (by omega)
  rw [bl_shift (n := V a + 2 ^ (32 * a.length) * d.toNat) (k := 32 * a.length) (by omega)]
  rw [Nat.add_mul_div_left _ _ hpos, Nat.div_eq_of_lt hv, Nat.zero_add]
theorem ref_Len_ev {l : List Int} (h : Nm l) (hb : l.length < 1000000000) : Ev (fun k => cutplaneref01_Len.f k l) ((bl (V l) : Nat) : Int) := by
  unfold cutplaneref01_Len.f
  by_cases c : l.length = 0
  · have : l = [] := List.eq_nil_of_length_eq_zero c
    subst this
    (repeat (first | (with_reducible refine ev_pos ?_ ?_; focus (first | omega | assumption | (simp; done) | (simp; omega))) | (with_reducible refine ev_neg ?_ ?_; focus (first | omega | assumption | (simp; done) | (simp; omega))))); exact Ev.now _
  · (repeat (first | (with_reducible refine ev_pos ?_ ?_; focus (first | omega | assumption | (simp; done) | (simp; omega))) | (with_reducible refine ev_neg ?_ ?_; focus (first | omega | assumption | (simp; done) | (simp; omega)))))
    have e : wrap64 ((l.length : Int) - 1) = ((l.length - 1 : Nat) : Int) := by unfold wrap64; omega
    rw [e]
    clear e
    (repeat (first | (with_reducible refine ev_pos ?_ ?_; focus (first | omega | assumption | (simp; done) | (simp; omega))) | (with_reducible refine ev_neg ?_ ?_; focus (first | omega | assumption | (simp; done) | (simp; omega)))))
    have hd := h.dg.getD (l.length - 1)
    rw [rdn, w64n (by omega) (by omega)]
    generalize hx : l.getD (l.length - 1) 0 = x at hd
    obtain ⟨n, rfl⟩ := Int.eq_ofNat_of_zero_le hd.1
    have hbn : bl n ≤ 32 := bl_le_of_lt (by omega)
    refine ev_eq (rlen_l0 n _ (by omega) (by omega)) ?_
    have hne : l ≠ [] := fun e => c (by rw [e]; rfl)
    have hm := Nm_iff h.dg |>.1 h
    rw [bl_V h hne, hx]
    simp
end Go.Proofs.YtclegbgmhimenaaDoor.Eng.K

/- The first layer's plain functions: quotients by one digit; decimal texts. -/
set_option linter.unusedVariables false
set_option linter.unusedSimpArgs false
namespace Go.Proofs.YtclegbgmhimenaaDoor.Eng.K
open Go.RowKit

/-! ### a text's bytes as numbers -/
theorem or_digit {x y : Int} (h0 : 0 ≤ x ∧ x < 4294967296) (h1 : 0 ≤ y ∧ y < 4294967296) : Go.bits .or .u64 (x * 4294967296) y = x * 4294967296 + y := by
  obtain ⟨X, rfl⟩ := Int.eq_ofNat_of_zero_le h0.1
  obtain ⟨Y, rfl⟩ := Int.eq_ofNat_of_zero_le h1.1
  have e : (X : Int) * 4294967296 = ((2 ^ 32 * X : Nat) : Int) := by omega
  rw [e, u64_or_nat _ _ (by omega) (by omega), ← Nat.two_pow_add_eq_or_of_lt (by omega)]
  omega
theorem top_div {r x d : Int} (hr : 0 ≤ r ∧ r < d) (hx : 0 ≤ x ∧ x < 4294967296) (hd : d < 4294967296) : 0 ≤ (r * 4294967296 + x) / d ∧ (r * 4294967296 + x) / d < 4294967296 := by
  constructor
  · exact Int.ediv_nonneg (by omega) (by omega)
  · apply Int.ediv_lt_of_lt_mul (by omega)
    have : r * 4294967296 + 4294967296 ≤ d * 4294967296 := by omega
    rw [Int.mul_comm]; omega
theorem div32_eq {r x d : Int} (hr : 0 ≤ r ∧ r < d) (hx : 0 ≤ x ∧ x < 4294967296) (hd : d < 4294967296) : bits_Div32.f r x d = some ((r * 4294967296 + x) / d, (r * 4294967296 + x) % d) := by
  have hn : 0 ≤ r * 4294967296 + x := by omega
  have hd0 : d ≠ 0 := by omega
  have hr0 : ¬ d ≤ r := by omega
  have ur := u64 (n := r) (by omega) (by omega)
  have ur2 := u64 (n := r * 4294967296) (by omega) (by omega)
  have ux := u64 (n := x) (by omega) (by omega)
  have ud := u64 (n := d) (by omega) (by omega)
  have ho := or_digit (x := r) (by omega) hx
  have h1 := top_div hr hx hd
  have h2 : 0 ≤ (r * 4294967296 + x) % d := Int.emod_nonneg _ hd0
  have h3 : (r * 4294967296 + x) % d < d := Int.emod_lt_of_pos _ (by omega)
  unfold bits_Div32.f
  rw [if_pos hd0, if_neg hr0, ud, if_neg hd0, if_neg hd0, ur, ur2, ux, ho, Int.tdiv_eq_ediv_of_nonneg hn, Int.tmod_eq_emod_of_nonneg hn]
  clear ur ur2 ux ud ho
  generalize (r * 4294967296 + x) / d = q at *
  generalize (r * 4294967296 + x) % d = m at *
  rw [u64 h1.1 (by omega), Int.emod_eq_of_lt h1.1 h1.2, Int.emod_eq_of_lt h2 (by omega)]
theorem zeros_snoc (n : Nat) (l : List Int) : List.replicate (n + 1) (0 : Int) ++ l = List.replicate n 0 ++ 0 :: l := by
  rw [List.replicate_succ', List.append_assoc]; rfl
/-- one digit more comes down -/
theorem small_nat (t P X R E w : Nat) (hE : 0 < E) :
    (t + P * X + P * 4294967296 * R) / E + P * 4294967296 * w = (t + P * ((R * 4294967296 + X) % E)) / E + P * ((R * 4294967296 + X) / E + 4294967296 * w) ∧
    (t + P * X + P * 4294967296 * R) % E = (t + P * ((R * 4294967296 + X) % E)) % E := by
  have h := Nat.div_add_mod (R * 4294967296 + X) E
  have e4 : P * (R * 4294967296 + X) = P * 4294967296 * R + P * X := by rw [Nat.mul_add, Nat.mul_comm R, Nat.mul_assoc]
  generalize (R * 4294967296 + X) / E = q at *
  generalize (R * 4294967296 + X) % E = m at *
  have e3 : P * (E * q + m) = E * (P * q) + P * m := by rw [Nat.mul_add, Nat.mul_left_comm]
  rw [h, e4] at e3
  have key : t + P * X + P * 4294967296 * R = t + P * m + E * (P * q) := by
    rw [Nat.add_assoc, Nat.add_comm (P * X), e3, Nat.add_assoc, Nat.add_comm (P * m)]
  rw [key, Nat.add_mul_div_left _ _ hE, Nat.add_mul_mod_self_left, Nat.mul_add, Nat.mul_assoc P, Nat.add_assoc]
  exact ⟨rfl, rfl⟩
theorem small_step {a : List Int} (ha : Dg a) {i : Nat} (hi : i < a.length) {r d : Int} (hr : 0 ≤ r ∧ r < d) (w : Nat) :
    (V (a.take (i + 1)) + 4294967296 ^ (i + 1) * r.toNat) / d.toNat + 4294967296 ^ (i + 1) * w =
      (V (a.take i) + 4294967296 ^ i * ((r * 4294967296 + a.getD i 0) % d).toNat) / d.toNat + 4294967296 ^ i * (((r * 4294967296 + a.getD i 0) / d).toNat + 4294967296 * w) ∧
    (V (a.take (i + 1)) + 4294967296 ^ (i + 1) * r.toNat) % d.toNat = (V (a.take i) + 4294967296 ^ i * ((r * 4294967296 + a.getD i 0) % d).toNat) % d.toNat := by
  have hx := ha.getD i
  rw [V_take_succ hi]
  obtain ⟨R, rfl⟩ := Int.eq_ofNat_of_zero_le hr.1
  obtain ⟨E, rfl⟩ := Int.eq_ofNat_of_zero_le (show 0 ≤ d by omega)
  obtain ⟨X, hX⟩ := Int.eq_ofNat_of_zero_le hx.1
  rw [hX]
  have hE : 0 < E := by omega
  clear hx hX hr ha hi
  have e1 : ((R : Int) * 4294967296 + X) % E = (((R * 4294967296 + X) % E : Nat) : Int) := by
    rw [Int.natCast_emod, Int.natCast_add, Int.natCast_mul, Int.cast_ofNat_Int]
  have e2 : ((R : Int) * 4294967296 + X) / E = (((R * 4294967296 + X) / E : Nat) : Int) := by
    rw [Int.natCast_ediv, Int.natCast_add, Int.natCast_mul, Int.cast_ofNat_Int]
  rw [e1, e2]
  rw [Int.toNat_natCast, Int.toNat_natCast, Int.toNat_natCast, Int.toNat_natCast, Int.toNat_natCast, Nat.pow_succ]
  exact small_nat _ _ _ _ _ _ hE
theorem small_l0 {a : List Int} (ha : Dg a) (hl : a.length < 1000000000) {d : Int} (hd : 0 < d ∧ d < 4294967296) : ∀ (i : Nat) (r : Int) (done : List Int), i + done.length = a.length → 0 ≤ r ∧ r < d → Dg done →
    Ev (fun k => nat_small.l0 k a d (List.replicate i 0 ++ done) r ((i : Int) - 1)) (D ((V (a.take i) + 4294967296 ^ i * r.toNat) / d.toNat + 4294967296 ^ i * V done), (((V (a.take i) + 4294967296 ^ i * r.toNat) % d.toNat : Nat) : Int))
  | 0, r, done, hi, hr, hg => by
    refine ev_step ?_
    simp only [nat_small.l0]
    (repeat (first | (with_reducible refine ev_pos ?_ ?_; focus (first | omega | assumption | (simp; done) | (simp; omega))) | (with_reducible refine ev_neg ?_ ?_; focus (first | omega | assumption | (simp; done) | (simp; omega)))))
    refine Ev.bind (nat_trim_ev (l := List.replicate 0 0 ++ done) (by simpa using hg) (by simp; omega)) (ev_eq (Ev.now _) ?_)
    have h1 : r.toNat / d.toNat = 0 := Nat.div_eq_of_lt (by omega)
    have h2 : r.toNat % d.toNat = r.toNat := Nat.mod_eq_of_lt (by omega)
    simp [h1, h2]; omega
  | i + 1, r, done, hi, hr, hg => by
    have e0 : ((i + 1 : Nat) : Int) - 1 = (i : Int) := by omega
    have hx := ha.getD i
    have ht := top_div hr hx hd.2
    have st := small_step ha (i := i) (by omega) hr (V done)
    have hm0 : 0 ≤ (r * 4294967296 + a.getD i 0) % d := Int.emod_nonneg _ (by omega)
    have hm1 : (r * 4294967296 + a.getD i 0) % d < d := Int.emod_lt_of_pos _ (by omega)
    have ih := small_l0 ha hl hd i ((r * 4294967296 + a.getD i 0) % d) (((r * 4294967296 + a.getD i 0) / d) :: done) (by simp; omega) ⟨hm0, hm1⟩ (Dg.cons ht.1 ht.2 hg)
    rw [e0]
    refine ev_step ?_
    simp only [nat_small.l0, w64m (n := i) (by omega)]
    (repeat (first | (with_reducible refine ev_pos ?_ ?_; focus (first | omega | assumption | (simp; done) | (simp; omega))) | (with_reducible refine ev_neg ?_ ?_; focus (first | omega | assumption | (simp; done) | (simp; omega)))))
    rw [rdn]
    refine ev_bind (div32_eq hr hx hd.2) ?_
    refine ev_pos (by omega) (ev_pos (by simp; omega) ?_)
    have hs : (List.replicate (i + 1) (0 : Int) ++ done).set ((i : Int)).toNat ((r * 4294967296 + a.getD i 0) / d) = List.replicate i 0 ++ ((r * 4294967296 + a.getD i 0) / d) :: done := by
      rw [zeros_snoc, set_app (by simp)]; simp
    rw [hs]
    refine ev_eq ih ?_
    rw [V_cons, st.1, st.2]
theorem nat_small_ev {a : List Int} (ha : Dg a) (hl : a.length < 1000000000) {d : Int} (hd : 0 < d ∧ d < 4294967296) : Ev (fun k => nat_small.f k a d) (D (V a / d.toNat), ((V a % d.toNat : Nat) : Int)) := by
  unfold nat_small.f
  (repeat (first | (with_reducible refine ev_pos ?_ ?_; focus (first | omega | assumption | (simp; done) | (simp; omega))) | (with_reducible refine ev_neg ?_ ?_; focus (first | omega | assumption | (simp; done) | (simp; omega)))))
  have := small_l0 ha hl hd a.length 0 [] (by simp) (by omega) Dg.nil
  rw [w64m (by omega)]
  simpa using this
theorem rsmall_l0 {a : List Int} (ha : Dg a) (hl : a.length < 1000000000) {d : Int} (hd : 0 < d ∧ d < 4294967296) : ∀ (i : Nat) (r : Int) (done : List Int), i + done.length = a.length → 0 ≤ r ∧ r < d → Dg done →
    Ev (fun k => cutplaneref01_byDigit.l0 k a d (List.replicate i 0 ++ done) r ((i : Int) - 1)) (D ((V (a.take i) + 4294967296 ^ i * r.toNat) / d.toNat + 4294967296 ^ i * V done), D ((V (a.take i) + 4294967296 ^ i * r.toNat) % d.toNat))
  | 0, r, done, hi, hr, hg => by
    refine ev_step ?_
    simp only [cutplaneref01_byDigit.l0]
    (repeat (first | (with_reducible refine ev_pos ?_ ?_; focus (first | omega | assumption | (simp; done) | (simp; omega))) | (with_reducible refine ev_neg ?_ ?_; focus (first | omega | assumption | (simp; done) | (simp; omega)))))
    refine Ev.bind (ref_Trim_ev (l := List.replicate 0 0 ++ done) (by simpa using hg) (by simp; omega)) (Ev.bind (ref_Of_ev hr.1 (by omega)) (ev_eq (Ev.now _) ?_))
    have h1 : r.toNat / d.toNat = 0 := Nat.div_eq_of_lt (by omega)
    have h2 : r.toNat % d.toNat = r.toNat := Nat.mod_eq_of_lt (by omega)
    simp [h1, h2]
  | i + 1, r, done, hi, hr, hg => by
    have e0 : ((i + 1 : Nat) : Int) - 1 = (i : Int) := by omega
    have hx := ha.getD i
    have ht := top_div hr hx hd.2
    have st := small_step ha (i := i) (by omega) hr (V done)
    have hm0 : 0 ≤ (r * 4294967296 + a.getD i 0) % d := Int.emod_nonneg _ (by omega)
    have hm1 : (r * 4294967296 + a.getD i 0) % d < d := Int.emod_lt_of_pos _ (by omega)
    have ih := rsmall_l0 ha hl hd i ((r * 4294967296 + a.getD i 0) % d) (((r * 4294967296 + a.getD i 0) / d) :: done) (by simp; omega) ⟨hm0, hm1⟩ (Dg.cons ht.1 ht.2 hg)
    rw [e0]
    refine ev_step ?_
    simp only [cutplaneref01_byDigit.l0, w64m (n := i) (by omega)]
    (repeat (first | (with_reducible refine ev_pos ?_ ?_; focus (first | omega | assumption | (simp; done) | (simp; omega))) | (with_reducible refine ev_neg ?_ ?_; focus (first | omega | assumption | (simp; done) | (simp; omega)))))
    rw [rdn, u64 (n := d) (by omega) (by omega), u64 (n := r * 4294967296) (by omega) (by omega), u64 (n := a.getD i 0) (by omega) (by omega), or_digit (by omega) hx,
      Int.tdiv_eq_ediv_of_nonneg (by omega), Int.tmod_eq_emod_of_nonneg (by omega), u64 ht.1 (by omega), Int.emod_eq_of_lt ht.1 ht.2]
    (repeat (first | (with_reducible refine ev_pos ?_ ?_; focus (first | omega | assumption | (simp; done) | (simp; omega))) | (with_reducible refine ev_neg ?_ ?_; focus (first | omega | assumption | (simp; done) | (simp; omega)))))
    have hs : (List.replicate (i + 1) (0 : Int) ++ done).set ((i : Int)).toNat ((r * 4294967296 + a.getD i 0) / d) = List.replicate i 0 ++ ((r * 4294967296 + a.getD i 0) / d) :: done := by
      rw [zeros_snoc, set_app (by simp)]; simp
    rw [hs]
    refine ev_eq ih ?_
    rw [V_cons, st.1, st.2]
theorem ref_byDigit_ev {a : List Int} (ha : Dg a) (hl : a.length < 1000000000) {d : Int} (hd : 0 < d ∧ d < 4294967296) : Ev (fun k => cutplaneref01_byDigit.f k a d) (D (V a / d.toNat), D (V a % d.toNat)) := by
  unfold cutplaneref01_byDigit.f
  (repeat (first | (with_reducible refine ev_pos ?_ ?_; focus (first | omega | assumption | (simp; done) | (simp; omega))) | (with_reducible refine ev_neg ?_ ?_; focus (first | omega | assumption | (simp; done) | (simp; omega)))))
  have := rsmall_l0 ha hl hd a.length 0 [] (by simp) (by omega) Dg.nil
  rw [w64m (by omega)]
  simpa using this

end Go.Proofs.YtclegbgmhimenaaDoor.Eng.K

/- The first layer's plain functions: times a power of two, bits. -/
set_option linter.unusedVariables false
set_option linter.unusedSimpArgs false
namespace Go.Proofs.YtclegbgmhimenaaDoor.Eng.K
open Go.RowKit

/-! ### one digit -/
theorem pw {s : Nat} (h : s ≤ 32) : 2 ^ s * 2 ^ (32 - s) = 4294967296 := by
  rw [← Nat.pow_add]; have : s + (32 - s) = 32 := by omega
  rw [this]
theorem pw_pos (s : Nat) : 0 < 2 ^ s := Nat.pow_pos (by omega)
theorem shift_nat {X P Q c : Nat} (hP : 0 < P) (hc : c < P) : (X * P + c) / (P * Q) = X / Q ∧ (X * P + c) % (P * Q) = P * (X % Q) + c := by
  have h1 : (X * P + c) / P = X := by rw [Nat.mul_comm, Nat.mul_add_div hP, Nat.div_eq_of_lt hc, Nat.add_zero]
  have h2 : (X * P + c) % P = c := by rw [Nat.mul_comm, Nat.mul_add_mod, Nat.mod_eq_of_lt hc]
  exact ⟨by rw [← Nat.div_div_eq_div_mul, h1], by rw [Nat.mod_mul, h1, h2, Nat.add_comm]⟩
theorem pow_cast (s : Nat) : ((2 : Int) ^ s) = ((2 ^ s : Nat) : Int) := by simp
theorem shl32 (X s : Nat) (hs : s < 32) : shl .u32 (X : Int) (s : Int) = ((X * 2 ^ s % 4294967296 : Nat) : Int) := by
  unfold shl
  rw [Int.toNat_natCast, Nat.min_eq_left (by simp [IntKind.bits]; omega), pow_cast, ← Int.natCast_mul]
  simp [IntKind.wrap, IntKind.bits, IntKind.signed]
theorem shl64 (X s : Nat) (hs : s ≤ 32) (hX : X < 4294967296) : shl .u64 (X : Int) (s : Int) = ((X * 2 ^ s : Nat) : Int) := by
  unfold shl
  rw [Int.toNat_natCast, Nat.min_eq_left (by simp [IntKind.bits]; omega), pow_cast, ← Int.natCast_mul]
  have h1 : 2 ^ s ≤ 2 ^ 32 := Nat.pow_le_pow_right (by omega) hs
  have h2 : X * 2 ^ s ≤ 4294967295 * 2 ^ 32 := Nat.mul_le_mul (by omega) h1
  exact u64 (by omega) (by omega)
theorem shr_n {k : IntKind} (X s : Nat) (hs : s ≤ k.bits) : shr k (X : Int) (s : Int) = ((X / 2 ^ s : Nat) : Int) := by
  unfold shr
  rw [Int.toNat_natCast, Nat.min_eq_left hs, pow_cast, ← Int.natCast_ediv]
theorem wrap_u64n (X : Nat) (hX : X < 4294967296) : IntKind.u64.wrap (X : Int) = (X : Int) := u64 (by omega) (by omega)
theorem w32s {s : Nat} (hs : s ≤ 32) : wrap64 (32 - (s : Int)) = ((32 - s : Nat) : Int) := by unfold wrap64; omega
theorem div_lt_pw {X s : Nat} (hs : s ≤ 32) (hX : X < 4294967296) : X / 2 ^ s < 2 ^ (32 - s) := by
  rw [Nat.div_lt_iff_lt_mul (pw_pos _), Nat.mul_comm, pw hs]; exact hX
/-- up: the digit that stays -/
theorem up_digit (X s c : Nat) (hs : s < 32) (hX : X < 4294967296) (hc : c < 2 ^ s) : Go.bits .or .u32 (shl .u32 (X : Int) (s : Int)) (c : Int) = (((X * 2 ^ s + c) % 4294967296 : Nat) : Int) := by
  have h1 := (shift_nat (X := X) (Q := 2 ^ (32 - s)) (pw_pos s) hc).2
  have h0 := (shift_nat (X := X) (Q := 2 ^ (32 - s)) (c := 0) (pw_pos s) (pw_pos s)).2
  have hle : 2 ^ s ≤ 2 ^ 31 := Nat.pow_le_pow_right (by omega) (by omega)
  rw [pw (by omega)] at h1 h0
  rw [shl32 _ _ hs, u32_or_nat _ _ (by omega) (by omega), h1]
  rw [Nat.add_zero, Nat.add_zero] at h0
  rw [h0, ← Nat.two_pow_add_eq_or_of_lt hc]
theorem up_carry (X s c : Nat) (hs : s < 32) (hX : X < 4294967296) (hc : c < 2 ^ s) : (shr .u64 (IntKind.u64.wrap (X : Int)) (wrap64 (32 - (s : Int)))) % 4294967296 = (((X * 2 ^ s + c) / 4294967296 : Nat) : Int) := by
  have h1 := (shift_nat (X := X) (Q := 2 ^ (32 - s)) (pw_pos s) hc).1
  rw [pw (by omega)] at h1
  rw [wrap_u64n _ hX, w32s (by omega), shr_n _ _ (by simp [IntKind.bits]; omega), h1]
  have := div_lt_pw (s := 32 - s) (by omega) hX
  have h3 : X / 2 ^ (32 - s) ≤ X := Nat.div_le_self _ _
  omega
theorem up_carry_lt (X s c : Nat) (hs : s < 32) (hX : X < 4294967296) (hc : c < 2 ^ s) : (X * 2 ^ s + c) / 4294967296 < 2 ^ s := by
  have h1 := (shift_nat (X := X) (Q := 2 ^ (32 - s)) (pw_pos s) hc).1
  rw [pw (by omega)] at h1
  rw [h1]
  have := div_lt_pw (s := 32 - s) (by omega) hX
  have e : 32 - (32 - s) = s := by omega
  rwa [e] at this
theorem rup_or (X s c : Nat) (hs : s < 32) (hX : X < 4294967296) (hc : c < 2 ^ s) : Go.bits .or .u64 (c : Int) (shl .u64 (IntKind.u64.wrap (X : Int)) (s : Int)) = ((X * 2 ^ s + c : Nat) : Int) := by
  have hle : 2 ^ s ≤ 2 ^ 31 := Nat.pow_le_pow_right (by omega) (by omega)
  have h2 : X * 2 ^ s ≤ 4294967295 * 2 ^ 31 := Nat.mul_le_mul (by omega) hle
  rw [wrap_u64n _ hX, shl64 _ _ (by omega) hX, u64_or_nat _ _ (by omega) (by omega), Nat.or_comm, Nat.mul_comm X, ← Nat.two_pow_add_eq_or_of_lt hc]

/-! ### times 2^n -/
def upRec (P : Nat) : List Int → Nat → List Int
  | [], c => [(c : Int)]
  | d :: l, c => (((d.toNat * P + c) % 4294967296 : Nat) : Int) :: upRec P l ((d.toNat * P + c) / 4294967296)
theorem upRec_V {s : Nat} (hs : s < 32) : ∀ (l : List Int) (c : Nat), Dg l → c < 2 ^ s → V (upRec (2 ^ s) l c) = V l * 2 ^ s + c ∧ Dg (upRec (2 ^ s) l c)
  | [], c, _, hc => by
    have hle : 2 ^ s ≤ 2 ^ 31 := Nat.pow_le_pow_right (by omega) (by omega)
    simp only [upRec, V_cons, V_nil]
    exact ⟨by omega, Dg.cons (by omega) (by omega) Dg.nil⟩
  | d :: l, c, hg, hc => by
    have hd := hg.head
    have hX : d.toNat < 4294967296 := by omega
    have ih := upRec_V hs l _ hg.tail (up_carry_lt d.toNat s c hs hX hc)
    simp only [upRec, V_cons, ih.1]
    refine ⟨?_, Dg.cons (by omega) (by omega) ih.2⟩
    generalize hm : d.toNat * 2 ^ s + c = m
    rw [Nat.add_mul, Nat.mul_assoc]
    generalize V l * 2 ^ s = z
    omega
theorem nn {i : Nat} : 0 ≤ (i : Int) := Int.natCast_nonneg i
theorem up_l0 (A : List Int) (hA : Dg A) (hl : A.length < 1000000000) {s : Nat} (hs : s < 32) : ∀ (a done pa : List Int) (c : Nat), A = pa ++ a → c < 2 ^ s → Dg done → done.length + a.length < 2000000000 →
    Ev (fun k => nat_up.l0 k done s c A A.length pa.length) (D (V (done ++ upRec (2 ^ s) a c)))
  | [], done, pa, c, he, hc, hg, hb => by
    have hlen : A.length = pa.length := by rw [he]; simp
    have hle : 2 ^ s ≤ 2 ^ 31 := Nat.pow_le_pow_right (by omega) (by omega)
    refine ev_step ?_
    simp only [nat_up.l0]
    (repeat (first | (with_reducible refine ev_pos ?_ ?_; focus (first | omega | assumption | (simp; done) | (simp; omega))) | (with_reducible refine ev_neg ?_ ?_; focus (first | omega | assumption | (simp; done) | (simp; omega)))))
    exact Ev.bind (nat_trim_ev (hg.app (Dg.cons (by omega) (by omega) Dg.nil)) (by simp at hb ⊢; omega)) (Ev.now _)
  | d :: a, done, pa, c, he, hc, hg, hb => by
    have hlen : A.length = pa.length + 1 + a.length := by rw [he]; simp; omega
    have hd : 0 ≤ d ∧ d < 4294967296 := by rw [he] at hA; exact hA.right.head
    obtain ⟨X, rfl⟩ := Int.eq_ofNat_of_zero_le hd.1
    have hX : X < 4294967296 := by omega
    have h1 : rd A (pa.length : Int) = (X : Int) := by rw [he]; exact rd_app rfl
    refine ev_step ?_
    simp only [nat_up.l0, h1, w64s (n := pa.length) (by omega), up_digit X s c hs hX hc, up_carry X s c hs hX hc]
    have w32 : wrap64 (32 - (s : Int)) = 32 - (s : Int) := by unfold wrap64; omega
    (repeat (first | (with_reducible refine ev_pos ?_ ?_; focus (first | omega | assumption | (simp; done) | (simp; omega))) | (with_reducible refine ev_neg ?_ ?_; focus (first | omega | assumption | (simp; done) | (simp; omega)))))
    have := up_l0 A hA hl hs a (done ++ [(((X * 2 ^ s + c) % 4294967296 : Nat) : Int)]) (pa ++ [(X : Int)]) ((X * 2 ^ s + c) / 4294967296) (by rw [he]; simp) (up_carry_lt X s c hs hX hc) (hg.app (Dg.cons (by omega) (by omega) Dg.nil)) (by simp at hb ⊢; omega)
    rw [List.length_append, List.length_singleton] at this
    refine ev_eq this ?_
    simp [upRec]
theorem rup_l0 (A : List Int) (hA : Dg A) (hl : A.length < 1000000000) {s : Nat} (hs : s < 32) : ∀ (a done pa : List Int) (c : Nat), A = pa ++ a → c < 2 ^ s → Dg done → done.length + a.length < 2000000000 →
    Ev (fun k => cutplaneref01_Up.l0 k A done s c pa.length) (D (V (done ++ upRec (2 ^ s) a c)))
  | [], done, pa, c, he, hc, hg, hb => by
    have hlen : A.length = pa.length := by rw [he]; simp
    have hle : 2 ^ s ≤ 2 ^ 31 := Nat.pow_le_pow_right (by omega) (by omega)
    refine ev_step ?_
    have e : (c : Int) % 4294967296 = (c : Int) := by omega
    simp only [cutplaneref01_Up.l0, e]
    (repeat (first | (with_reducible refine ev_pos ?_ ?_; focus (first | omega | assumption | (simp; done) | (simp; omega))) | (with_reducible refine ev_neg ?_ ?_; focus (first | omega | assumption | (simp; done) | (simp; omega)))))
    exact Ev.bind (ref_Trim_ev (hg.app (Dg.cons (by omega) (by omega) Dg.nil)) (by simp at hb ⊢; omega)) (Ev.now _)
  | d :: a, done, pa, c, he, hc, hg, hb => by
    have hlen : A.length = pa.length + 1 + a.length := by rw [he]; simp; omega
    have hd : 0 ≤ d ∧ d < 4294967296 := by rw [he] at hA; exact hA.right.head
    obtain ⟨X, rfl⟩ := Int.eq_ofNat_of_zero_le hd.1
    have hX : X < 4294967296 := by omega
    have h1 : rd A (pa.length : Int) = (X : Int) := by rw [he]; exact rd_app rfl
    have e1 : ((X * 2 ^ s + c : Nat) : Int) % 4294967296 = (((X * 2 ^ s + c) % 4294967296 : Nat) : Int) := by omega
    have e2 : ((X * 2 ^ s + c : Nat) : Int) / 4294967296 = (((X * 2 ^ s + c) / 4294967296 : Nat) : Int) := by omega
    refine ev_step ?_
    simp only [cutplaneref01_Up.l0, h1, w64s (n := pa.length) (by omega), rup_or X s c hs hX hc, e1, e2]
    (repeat (first | (with_reducible refine ev_pos ?_ ?_; focus (first | omega | assumption | (simp; done) | (simp; omega))) | (with_reducible refine ev_neg ?_ ?_; focus (first | omega | assumption | (simp; done) | (simp; omega)))))
    have := rup_l0 A hA hl hs a (done ++ [(((X * 2 ^ s + c) % 4294967296 : Nat) : Int)]) (pa ++ [(X : Int)]) ((X * 2 ^ s + c) / 4294967296) (by rw [he]; simp) (up_carry_lt X s c hs hX hc) (hg.app (Dg.cons (by omega) (by omega) Dg.nil)) (by simp at hb ⊢; omega)
    rw [List.length_append, List.length_singleton] at this
    refine ev_eq this ?_
    simp [upRec]
theorem t32 {n : Nat} (h : n < 4611686018427387904) : wrap64 (Int.tdiv (n : Int) 32) = ((n / 32 : Nat) : Int) := by
  rw [Int.tdiv_eq_ediv_of_nonneg (by omega)]; unfold wrap64; omega
theorem m32 (n : Nat) : Int.tmod (n : Int) 32 = ((n % 32 : Nat) : Int) := by
  rw [Int.tmod_eq_emod_of_nonneg (by omega)]; omega
theorem pw_split (n : Nat) : 2 ^ n = 4294967296 ^ (n / 32) * 2 ^ (n % 32) := by
  have h : (4294967296 : Nat) = 2 ^ 32 := by decide
  rw [h, ← Nat.pow_mul, ← Nat.pow_add]; congr 1; omega
theorem up_V {a : List Int} (ha : Dg a) (n : Nat) : V (List.replicate (n / 32) 0 ++ upRec (2 ^ (n % 32)) a 0) = V a * 2 ^ n := by
  have h := (upRec_V (s := n % 32) (by omega) a 0 ha (pw_pos _)).1
  rw [V_append, V_zeros, List.length_replicate, h, Nat.zero_add, Nat.add_zero, pw_split n, Nat.mul_left_comm]
theorem nat_up_ev {a : List Int} (ha : Dg a) (la : a.length < 1000000000) (n : Nat) (hn : n < 1000000000) : Ev (fun k => nat_up.f k a n) (D (V a * 2 ^ n)) := by
  unfold nat_up.f
  have e1 : wrap64 (wrap64 (((n / 32 : Nat) : Int) + (a.length : Int)) + 1) = ((n / 32 + a.length + 1 : Nat) : Int) := by unfold wrap64; omega
  simp only [t32 (n := n) (by omega), m32, e1]
  clear e1
  by_cases h0 : a = []
  · subst h0
    (repeat (first | (with_reducible refine ev_pos ?_ ?_; focus (first | omega | assumption | (simp; done) | (simp; omega))) | (with_reducible refine ev_neg ?_ ?_; focus (first | omega | assumption | (simp; done) | (simp; omega)))))
    exact ev_eq (Ev.now _) (by simp [D_zero])
  · have : 0 < a.length := List.length_pos_iff.2 h0
    (repeat (first | (with_reducible refine ev_pos ?_ ?_; focus (first | omega | assumption | (simp; done) | (simp; omega))) | (with_reducible refine ev_neg ?_ ?_; focus (first | omega | assumption | (simp; done) | (simp; omega)))))
    have h := up_l0 a ha la (s := n % 32) (by omega) a (List.replicate (n / 32) 0) [] 0 rfl (pw_pos _) (Dg.zeros _) (by simp; omega)
    rw [up_V ha] at h
    simp only [Int.toNat_natCast]
    simpa using h
theorem ref_Up_ev {a : List Int} (ha : Dg a) (la : a.length < 1000000000) (n : Nat) (hn : n < 1000000000) : Ev (fun k => cutplaneref01_Up.f k a n) (D (V a * 2 ^ n)) := by
  unfold cutplaneref01_Up.f
  simp only [t32 (n := n) (by omega), m32]
  by_cases h0 : a = []
  · subst h0
    (repeat (first | (with_reducible refine ev_pos ?_ ?_; focus (first | omega | assumption | (simp; done) | (simp; omega))) | (with_reducible refine ev_neg ?_ ?_; focus (first | omega | assumption | (simp; done) | (simp; omega)))))
    exact ev_eq (Ev.now _) (by simp [D_zero])
  · have : 0 < a.length := List.length_pos_iff.2 h0
    (repeat (first | (with_reducible refine ev_pos ?_ ?_; focus (first | omega | assumption | (simp; done) | (simp; omega))) | (with_reducible refine ev_neg ?_ ?_; focus (first | omega | assumption | (simp; done) | (simp; omega)))))
    have h := rup_l0 a ha la (s := n % 32) (by omega) a (List.replicate (n / 32) 0) [] 0 rfl (pw_pos _) (Dg.zeros _) (by simp; omega)
    rw [up_V ha] at h
    simp only [Int.toNat_natCast]
    simpa using h
end Go.Proofs.YtclegbgmhimenaaDoor.Eng.K

/- The first layer's plain functions: a power of two off, bits. -/
set_option linter.unusedVariables false
set_option linter.unusedSimpArgs false
namespace Go.Proofs.YtclegbgmhimenaaDoor.Eng.K
open Go.RowKit

theorem pw' {s : Nat} (h : s ≤ 32) : 2 ^ (32 - s) * 2 ^ s = 4294967296 := by rw [Nat.mul_comm]; exact pw h
theorem V_drop {l : List Int} (h : Dg l) (q : Nat) : V (l.drop q) = V l / 4294967296 ^ q := by
  by_cases hq : q ≤ l.length
  · have e : V l = V (l.take q) + 4294967296 ^ q * V (l.drop q) := by
      conv => lhs; rw [← List.take_append_drop q l, V_append, List.length_take, Nat.min_eq_left hq]
    have hlt : V (l.take q) < 4294967296 ^ q := by
      have := V_lt (h.take q); rwa [List.length_take, Nat.min_eq_left hq] at this
    rw [e, Nat.add_mul_div_left _ _ (Nat.pow_pos (by omega)), Nat.div_eq_of_lt hlt, Nat.zero_add]
  · rw [List.drop_eq_nil_of_le (by omega), V_nil, Nat.div_eq_of_lt]
    exact Nat.lt_of_lt_of_le (V_lt h) (Nat.pow_le_pow_right (by omega) (by omega))
theorem lt_cast {m : Nat} (h : m < 4294967296) : (m : Int) < 4294967296 := by omega
theorem down_shl (Y s : Nat) (hs : s < 32) (hY : Y < 4294967296) : (shl .u64 (IntKind.u64.wrap (Y : Int)) (wrap64 (32 - (s : Int)))) % 4294967296 = ((2 ^ (32 - s) * (Y % 2 ^ s) : Nat) : Int) := by
  rw [wrap_u64n _ hY, w32s (by omega), shl64 _ _ (by omega) hY]
  have h := (shift_nat (X := Y) (P := 2 ^ (32 - s)) (Q := 2 ^ s) (c := 0) (pw_pos _) (pw_pos _)).2
  rw [pw' (by omega), Nat.add_zero, Nat.add_zero] at h
  rw [← h]; omega
theorem down_lt (X Y s : Nat) (hs : s < 32) (hX : X < 4294967296) : X / 2 ^ s + 2 ^ (32 - s) * (Y % 2 ^ s) < 4294967296 := by
  have h1 := div_lt_pw (s := s) (by omega) hX
  have h2 : Y % 2 ^ s + 1 ≤ 2 ^ s := Nat.mod_lt _ (pw_pos _)
  have h3 := Nat.mul_le_mul_left (2 ^ (32 - s)) h2
  rw [pw' (by omega), Nat.mul_add] at h3
  omega
theorem down_digit (X Y s : Nat) (hs : s < 32) (hX : X < 4294967296) (hY : Y < 4294967296) : Go.bits .or .u32 ((X / 2 ^ s : Nat) : Int) ((shl .u64 (IntKind.u64.wrap (Y : Int)) (wrap64 (32 - (s : Int)))) % 4294967296) = ((X / 2 ^ s + 2 ^ (32 - s) * (Y % 2 ^ s) : Nat) : Int) := by
  have hl := down_lt X Y s hs hX
  rw [down_shl Y s hs hY, u32_or_nat _ _ (Nat.lt_of_le_of_lt (Nat.le_add_right _ _) hl) (Nat.lt_of_le_of_lt (Nat.le_add_left _ _) hl), Nat.or_comm, ← Nat.two_pow_add_eq_or_of_lt (div_lt_pw (by omega) hX), Nat.add_comm]
theorem rdown_digit (X Y s : Nat) (hs : s < 32) (hX : X < 4294967296) (hY : Y < 4294967296) : (Go.bits .or .u64 (shr .u64 (IntKind.u64.wrap (X : Int)) (s : Int)) (shl .u64 (IntKind.u64.wrap (Y : Int)) (wrap64 (32 - (s : Int))))) % 4294967296 = ((X / 2 ^ s + 2 ^ (32 - s) * (Y % 2 ^ s) : Nat) : Int) := by
  have hl := div_lt_pw (s := s) (by omega) hX
  have hle : 2 ^ (32 - s) ≤ 2 ^ 32 := Nat.pow_le_pow_right (by omega) (by omega)
  have h2 : Y * 2 ^ (32 - s) ≤ 4294967295 * 2 ^ 32 := Nat.mul_le_mul (by omega) hle
  have hX2 : X / 2 ^ s ≤ X := Nat.div_le_self _ _
  rw [wrap_u64n _ hX, wrap_u64n _ hY, w32s (by omega), shl64 _ _ (by omega) hY, shr_n _ _ (by simp [IntKind.bits]; omega), u64_or_nat _ _ (by omega) (by omega), Nat.or_comm, Nat.mul_comm Y, ← Nat.two_pow_add_eq_or_of_lt hl, Nat.mul_comm _ Y]
  have h := (shift_nat (X := Y) (P := 2 ^ (32 - s)) (Q := 2 ^ s) (c := X / 2 ^ s) (pw_pos _) hl).2
  rw [pw' (by omega)] at h
  rw [Nat.add_comm (X / 2 ^ s), ← h]; omega

def downRec (s : Nat) : List Int → List Int
  | [] => []
  | d :: l => ((d.toNat / 2 ^ s + 2 ^ (32 - s) * ((l.headD 0).toNat % 2 ^ s) : Nat) : Int) :: downRec s l
theorem V_mod_pw {l : List Int} {s : Nat} (hs : s ≤ 32) : V l % 2 ^ s = (l.headD 0).toNat % 2 ^ s := by
  cases l with
  | nil => simp
  | cons d l =>
    have h := pw (s := s) hs
    simp only [V_cons, List.headD_cons]
    rw [← h, Nat.mul_assoc, Nat.add_mul_mod_self_left]
theorem downRec_V {s : Nat} (hs : s < 32) : ∀ (l : List Int), Dg l → V (downRec s l) = V l / 2 ^ s ∧ Dg (downRec s l)
  | [], _ => by simp [downRec, Dg.nil]
  | d :: l, hg => by
    have hd := hg.head
    have ih := downRec_V hs l hg.tail
    have hl := down_lt d.toNat (l.headD 0).toNat s hs (by omega)
    simp only [downRec, V_cons, ih.1]
    refine ⟨?_, Dg.cons nn (lt_cast hl) ih.2⟩
    rw [← V_mod_pw (l := l) (by omega), Int.toNat_natCast]
    have h := pw (s := s) (by omega)
    have h' := pw' (s := s) (by omega)
    have e1 : (d.toNat + 4294967296 * V l) / 2 ^ s = d.toNat / 2 ^ s + 2 ^ (32 - s) * V l := by
      rw [← h, Nat.mul_assoc, Nat.add_mul_div_left _ _ (pw_pos _)]
    have e2 : 2 ^ (32 - s) * V l = 2 ^ (32 - s) * (V l % 2 ^ s) + 4294967296 * (V l / 2 ^ s) := by
      rw [← h', Nat.mul_assoc, ← Nat.mul_add, Nat.mod_add_div]
    rw [e1, e2, Nat.add_assoc]
theorem down_V {a : List Int} (ha : Dg a) (n : Nat) : V (downRec (n % 32) (a.drop (n / 32))) = V a / 2 ^ n := by
  rw [(downRec_V (by omega) _ (ha.drop _)).1, V_drop ha, Nat.div_div_eq_div_mul, ← pw_split]

theorem down_l0 (A : List Int) (hA : Dg A) (hl : A.length < 1000000000) {s : Nat} (hs : s < 32) : ∀ (a done pa : List Int), A = pa ++ a → done.length = pa.length → Dg done →
    Ev (fun k => nat_down.l0 k A s (done ++ List.replicate a.length 0) A A.length pa.length) (D (V (done ++ downRec s a)))
  | [], done, pa, he, hd, hg => by
    have hlen : A.length = pa.length := by rw [he]; simp
    refine ev_step ?_
    simp only [nat_down.l0]
    (repeat (first | (with_reducible refine ev_pos ?_ ?_; focus (first | omega | assumption | (simp; done) | (simp; omega))) | (with_reducible refine ev_neg ?_ ?_; focus (first | omega | assumption | (simp; done) | (simp; omega)))))
    simp only [List.length_nil, List.replicate_zero, downRec]
    exact Ev.bind (nat_trim_ev (l := done ++ []) (by simpa using hg) (by simp; omega)) (Ev.now _)
  | d :: a, done, pa, he, hd, hg => by
    have hlen : A.length = pa.length + 1 + a.length := by rw [he]; simp; omega
    have hdd : 0 ≤ d ∧ d < 4294967296 := by rw [he] at hA; exact hA.right.head
    obtain ⟨X, rfl⟩ := Int.eq_ofNat_of_zero_le hdd.1
    have hX : X < 4294967296 := by omega
    have h1 : rd A (pa.length : Int) = (X : Int) := by rw [he]; exact rd_app rfl
    have hg2 : Dg (a) := by rw [he] at hA; exact hA.right.tail
    have hy := hg2.headD
    have ih := down_l0 A hA hl hs a (done ++ [((X / 2 ^ s + 2 ^ (32 - s) * ((a.headD 0).toNat % 2 ^ s) : Nat) : Int)]) (pa ++ [(X : Int)]) (by rw [he]; simp) (by simp [hd])
      (hg.app (Dg.cons nn (lt_cast (down_lt X (a.headD 0).toNat s hs hX)) Dg.nil))
    rw [@List.length_append _ pa, List.length_singleton] at ih
    refine ev_step ?_
    have hset : (done ++ List.replicate ((X : Int) :: a).length 0).set ((pa.length : Int)).toNat ((X / 2 ^ s : Nat) : Int) = (done ++ [((X / 2 ^ s : Nat) : Int)]) ++ List.replicate a.length 0 := by
      rw [List.length_cons, List.replicate_succ, set_app (by omega)]
    simp only [nat_down.l0, h1, w64s (n := pa.length) (by omega), shr_n (k := .u32) X s (by simp [IntKind.bits]; omega), hset, Option.bind_some]
    have w32 : wrap64 (32 - (s : Int)) = 32 - (s : Int) := by unfold wrap64; omega
    (repeat (first | (with_reducible refine ev_pos ?_ ?_; focus (first | omega | assumption | (simp; done) | (simp; omega))) | (with_reducible refine ev_neg ?_ ?_; focus (first | omega | assumption | (simp; done) | (simp; omega)))))
    by_cases hn : a = []
    · subst hn
      simp only [List.length_nil, Nat.add_zero] at hlen
      (repeat (first | (with_reducible refine ev_pos ?_ ?_; focus (first | omega | assumption | (simp; done) | (simp; omega))) | (with_reducible refine ev_neg ?_ ?_; focus (first | omega | assumption | (simp; done) | (simp; omega)))))
      refine ev_eq (by simpa [downRec] using ih) ?_
      simp [downRec]
    · obtain ⟨y, a', rfl⟩ := List.exists_cons_of_ne_nil hn
      obtain ⟨Y, rfl⟩ := Int.eq_ofNat_of_zero_le hy.1
      simp only [List.headD_cons] at hy ih
      have hlen' := hlen
      simp only [List.length_cons] at hlen'
      have h2 : rd A ((pa.length + 1 : Nat) : Int) = (Y : Int) := by rw [he, show pa ++ (X : Int) :: (Y : Int) :: a' = (pa ++ [(X : Int)]) ++ (Y : Int) :: a' by simp]; exact rd_app (by simp)
      have h3 : rd (done ++ [((X / 2 ^ s : Nat) : Int)] ++ List.replicate ((Y : Int) :: a').length 0) (pa.length : Int) = ((X / 2 ^ s : Nat) : Int) := by rw [List.append_assoc, List.singleton_append]; exact rd_app (by omega)
      have hset2 : (done ++ [((X / 2 ^ s : Nat) : Int)] ++ List.replicate ((Y : Int) :: a').length 0).set ((pa.length : Int)).toNat ((X / 2 ^ s + 2 ^ (32 - s) * (Y % 2 ^ s) : Nat) : Int) = done ++ [((X / 2 ^ s + 2 ^ (32 - s) * (Y % 2 ^ s) : Nat) : Int)] ++ List.replicate ((Y : Int) :: a').length 0 := by
        rw [List.append_assoc, List.singleton_append, set_app (by omega)]
      simp only [h2, h3, down_digit X Y s hs hX (by omega), hset2]
      (repeat (first | (with_reducible refine ev_pos ?_ ?_; focus (first | omega | assumption | (simp; done) | (simp; omega))) | (with_reducible refine ev_neg ?_ ?_; focus (first | omega | assumption | (simp; done) | (simp; omega)))))
      rw [Int.toNat_natCast] at ih
      refine ev_eq ih ?_
      simp [downRec]
theorem nat_down_ev {a : List Int} (ha : Dg a) (la : a.length < 1000000000) (n : Nat) (hn : n < 100000000000) : Ev (fun k => nat_down.f k a n) (D (V a / 2 ^ n)) := by
  unfold nat_down.f
  simp only [t32 (n := n) (by omega), m32]
  by_cases h : n / 32 ≥ a.length
  · (repeat (first | (with_reducible refine ev_pos ?_ ?_; focus (first | omega | assumption | (simp; done) | (simp; omega))) | (with_reducible refine ev_neg ?_ ?_; focus (first | omega | assumption | (simp; done) | (simp; omega)))))
    have : V a / 2 ^ n = 0 := by
      rw [pw_split, ← Nat.div_div_eq_div_mul, ← V_drop ha, List.drop_eq_nil_of_le h]; simp
    rw [this, D_zero]; exact Ev.now _
  · (repeat (first | (with_reducible refine ev_pos ?_ ?_; focus (first | omega | assumption | (simp; done) | (simp; omega))) | (with_reducible refine ev_neg ?_ ?_; focus (first | omega | assumption | (simp; done) | (simp; omega)))))
    have h := down_l0 (a.drop (n / 32)) (ha.drop _) (by simp; omega) (s := n % 32) (by omega) (a.drop (n / 32)) [] [] rfl rfl Dg.nil
    simp only [List.nil_append, down_V ha] at h
    simp only [Int.toNat_natCast]
    simpa using h

/-! ### bits -/
theorem ref_Bit_eq {l : List Int} (h : Dg l) (hl : l.length < 1000000000) (i : Nat) (hi : i < 4611686018427387904) : cutplaneref01_Bit.f l i = some ((V l / 2 ^ i % 2 : Nat) : Int) := by
  unfold cutplaneref01_Bit.f
  simp only [t32 hi, m32]
  rw [if_neg (by omega)]
  by_cases hq : i / 32 ≥ l.length
  · rw [if_pos (by omega)]
    have : V l / 2 ^ i = 0 := by
      rw [pw_split, ← Nat.div_div_eq_div_mul, ← V_drop h, List.drop_eq_nil_of_le hq]; simp
    rw [this]; rfl
  · rw [if_neg (by omega), if_pos nn, if_pos (by omega), if_pos nn]
    rw [rdn]
    have hx := h.getD (i / 32)
    obtain ⟨X, hX⟩ := Int.eq_ofNat_of_zero_le hx.1
    have hX2 : X < 4294967296 := by omega
    rw [hX, shr_n _ _ (by simp [IntKind.bits]; omega)]
    have hle : X / 2 ^ (i % 32) ≤ X := Nat.div_le_self _ _
    have e := u32_and_nat (X / 2 ^ (i % 32)) 1 (by omega) (by omega)
    rw [Nat.and_one_is_mod] at e
    rw [show (1 : Int) = ((1 : Nat) : Int) from rfl, e]
    congr 2
    rw [pw_split i, ← Nat.div_div_eq_div_mul, ← V_drop h]
    have hd : l.drop (i / 32) = (X : Int) :: l.drop (i / 32 + 1) := by
      rw [List.drop_eq_getElem_cons (by omega)]
      congr 1
      rw [← hX, List.getD_eq_getElem?_getD, List.getElem?_eq_getElem (by omega)]; rfl
    rw [hd, V_cons, Int.toNat_natCast, ← pw (s := i % 32) (by omega), Nat.mul_assoc, Nat.add_mul_div_left _ _ (pw_pos _)]
    have e3 : 2 ^ (32 - i % 32) = 2 * 2 ^ (31 - i % 32) := by
      rw [show 32 - i % 32 = (31 - i % 32) + 1 by omega, Nat.pow_succ, Nat.mul_comm]
    rw [e3, Nat.mul_assoc, Nat.add_mul_mod_self_left]
end Go.Proofs.YtclegbgmhimenaaDoor.Eng.K

/- The first layer's reference: quotients bit by bit. -/
set_option linter.unusedVariables false
set_option linter.unusedSimpArgs false
namespace Go.Proofs.YtclegbgmhimenaaDoor.Eng.K
open Go.RowKit

theorem bl_list {l : List Int} (h : Dg l) : bl (V l) ≤ 32 * l.length := by
  apply bl_le_of_lt
  have := V_lt h
  rwa [show (4294967296 : Nat) = 2 ^ 32 from rfl, ← Nat.pow_mul] at this
theorem D_lt {n k : Nat} (h : n < 4294967296 ^ k) : (D n).length ≤ k := by
  rcases Nat.lt_or_ge k (D n).length with h1 | h1
  · have h2 := D_len_pos (Nm_D n) (by intro e; rw [e] at h1; simp at h1)
    rw [V_D] at h2
    have h3 : 4294967296 ^ k ≤ 4294967296 ^ ((D n).length - 1) := Nat.pow_le_pow_right (by omega) (by omega)
    omega
  · exact h1
theorem ref_Low_ex {l : List Int} (h : Dg l) (hl : l.length < 1000000000) : ∀ (n i : Nat), 32 * l.length - i ≤ n → i < 100000000000 → ∃ b : Nat, Ev (fun k => cutplaneref01_Low.l0 k l i) (b : Int)
  | n, i, hn, hi => by
    have e32 : wrap64 (32 * (l.length : Int)) = ((32 * l.length : Nat) : Int) := by unfold wrap64; omega
    by_cases hlt : i < 32 * l.length
    · have hb := ref_Bit_eq h hl i (by omega)
      generalize V l / 2 ^ i % 2 = z at hb
      by_cases h0 : z = 0
      · have e1 : wrap64 ((i : Int) + 32) = ((i + 32 : Nat) : Int) := by unfold wrap64; omega
        have e2 : wrap64 ((i : Int) + 1) = ((i + 1 : Nat) : Int) := by unfold wrap64; omega
        cases n with
        | zero => omega
        | succ n =>
          obtain ⟨b1, hb1⟩ := ref_Low_ex h hl n (i + 32) (by omega) (by omega)
          obtain ⟨b2, hb2⟩ := ref_Low_ex h hl n (i + 1) (by omega) (by omega)
          by_cases hz : rd l (((i / 32 : Nat) : Int)) = 0
          · refine ⟨b1, ev_step ?_⟩
            simp only [cutplaneref01_Low.l0, e32, t32 (n := i) (by omega), e1, e2]
            subst h0
            refine ev_pos (by omega) (ev_bind hb ?_)
            exact ev_pos (by simp) (ev_pos nn (ev_pos (by omega) (ev_pos hz hb1)))
          · refine ⟨b2, ev_step ?_⟩
            simp only [cutplaneref01_Low.l0, e32, t32 (n := i) (by omega), e1, e2]
            subst h0
            refine ev_pos (by omega) (ev_bind hb ?_)
            exact ev_pos (by simp) (ev_pos nn (ev_pos (by omega) (ev_neg hz hb2)))
      · refine ⟨i, ev_step ?_⟩
        simp only [cutplaneref01_Low.l0, e32]
        refine ev_pos (by omega) (ev_bind hb ?_)
        exact ev_neg (by simpa using h0) (ev_neg (by omega) (Ev.now _))
    · by_cases he : i = 32 * l.length
      · refine ⟨0, ev_step ?_⟩
        simp only [cutplaneref01_Low.l0, e32]
        exact ev_neg (by omega) (ev_pos (by omega) (Ev.now _))
      · refine ⟨i, ev_step ?_⟩
        simp only [cutplaneref01_Low.l0, e32]
        exact ev_neg (by omega) (ev_neg (by omega) (Ev.now _))
termination_by n => n
theorem rdown_l0 (A : List Int) (hA : Dg A) (hl : A.length < 1000000000) (b : Bool) {s : Nat} (hs : s < 32) : ∀ (a done pa : List Int), A = pa ++ a → done.length + a.length < 1000000000 → Dg done →
    Ev (fun k => cutplaneref01_Down.l0 k A b done s pa.length) (D (V (done ++ downRec s a)), b)
  | [], done, pa, he, hd, hg => by
    have hlen : A.length = pa.length := by rw [he]; simp
    refine ev_step ?_
    simp only [cutplaneref01_Down.l0]
    (repeat (first | (with_reducible refine ev_pos ?_ ?_; focus (first | omega | assumption | (simp; done) | (simp; omega))) | (with_reducible refine ev_neg ?_ ?_; focus (first | omega | assumption | (simp; done) | (simp; omega)))))
    simp only [downRec, List.append_nil]
    exact Ev.bind (ref_Trim_ev hg (by simp at hd; omega)) (Ev.now _)
  | d :: a, done, pa, he, hd, hg => by
    have hlen : A.length = pa.length + 1 + a.length := by rw [he]; simp; omega
    have hdd : 0 ≤ d ∧ d < 4294967296 := by rw [he] at hA; exact hA.right.head
    obtain ⟨X, rfl⟩ := Int.eq_ofNat_of_zero_le hdd.1
    have hX : X < 4294967296 := by omega
    have h1 : rd A (pa.length : Int) = (X : Int) := by rw [he]; exact rd_app rfl
    have hg2 : Dg (a) := by rw [he] at hA; exact hA.right.tail
    have hy := hg2.headD
    have ih := rdown_l0 A hA hl b hs a (done ++ [((X / 2 ^ s + 2 ^ (32 - s) * ((a.headD 0).toNat % 2 ^ s) : Nat) : Int)]) (pa ++ [(X : Int)]) (by rw [he]; simp) (by simp at hd ⊢; omega)
      (hg.app (Dg.cons nn (lt_cast (down_lt X (a.headD 0).toNat s hs hX)) Dg.nil))
    rw [@List.length_append _ pa, List.length_singleton] at ih
    have hXs : X / 2 ^ s ≤ X := Nat.div_le_self _ _
    have e0 : ((X / 2 ^ s : Nat) : Int) % 4294967296 = ((X / 2 ^ s : Nat) : Int) := by
      generalize X / 2 ^ s = z at *; omega
    refine ev_step ?_
    simp only [cutplaneref01_Down.l0, h1, w64s (n := pa.length) (by omega)]
    (repeat (first | (with_reducible refine ev_pos ?_ ?_; focus (first | omega | assumption | (simp; done) | (simp; omega))) | (with_reducible refine ev_neg ?_ ?_; focus (first | omega | assumption | (simp; done) | (simp; omega)))))
    by_cases hn : a = []
    · subst hn
      simp only [List.length_nil, Nat.add_zero] at hlen
      (repeat (first | (with_reducible refine ev_pos ?_ ?_; focus (first | omega | assumption | (simp; done) | (simp; omega))) | (with_reducible refine ev_neg ?_ ?_; focus (first | omega | assumption | (simp; done) | (simp; omega)))))
      rw [wrap_u64n _ hX, shr_n _ _ (by simp [IntKind.bits]; omega), e0]
      refine ev_eq (by simpa [downRec] using ih) ?_
      simp [downRec]
    · obtain ⟨y, a', rfl⟩ := List.exists_cons_of_ne_nil hn
      obtain ⟨Y, rfl⟩ := Int.eq_ofNat_of_zero_le hy.1
      simp only [List.headD_cons] at hy ih
      have hlen' := hlen
      have w32 : wrap64 (32 - (s : Int)) = 32 - (s : Int) := by unfold wrap64; omega
      have hd' := hd
      simp only [List.length_cons] at hd'
      simp only [List.length_cons] at hlen'
      have h2 : rd A ((pa.length + 1 : Nat) : Int) = (Y : Int) := by rw [he, show pa ++ (X : Int) :: (Y : Int) :: a' = (pa ++ [(X : Int)]) ++ (Y : Int) :: a' by simp]; exact rd_app (by simp)
      simp only [h2, rdown_digit X Y s hs hX (by omega)]
      (repeat (first | (with_reducible refine ev_pos ?_ ?_; focus (first | omega | assumption | (simp; done) | (simp; omega))) | (with_reducible refine ev_neg ?_ ?_; focus (first | omega | assumption | (simp; done) | (simp; omega)))))
      rw [Int.toNat_natCast] at ih
      refine ev_eq ih ?_
      simp [downRec]
theorem ref_Down_ev {a : List Int} (ha : Nm a) (la : a.length < 100000000) (n : Nat) (hn : n < 1000000000) : ∃ b, Ev (fun k => cutplaneref01_Down.f k a n) (D (V a / 2 ^ n), b) := by
  unfold cutplaneref01_Down.f
  by_cases h : n ≥ bl (V a)
  · refine ⟨decide ((a.length : Int) > 0), Ev.bind (ref_Len_ev ha (by omega)) (ev_pos (by omega) (ev_eq (Ev.now _) ?_))⟩
    rw [Nat.div_eq_of_lt (Nat.lt_of_lt_of_le (lt_bl _) (Nat.pow_le_pow_right (by omega) h)), D_zero]
  · obtain ⟨b, hb⟩ := ref_Low_ex ha.dg (by omega) _ 0 (Nat.le_refl _) (by omega)
    refine ⟨decide ((n : Int) > (b : Int)), Ev.bind (ref_Len_ev ha (by omega)) (ev_neg (by omega) (Ev.bind hb ?_))⟩
    simp only [t32 (n := n) (by omega), m32]
    have hbl := bl_list ha.dg
    have hq : n / 32 ≤ a.length := by omega
    have h1 := rdown_l0 a ha.dg (by omega) (decide ((n : Int) > (b : Int))) (s := n % 32) (by omega) (a.drop (n / 32)) [] (a.take (n / 32)) (by simp) (by simp; omega) Dg.nil
    rw [List.length_take, Nat.min_eq_left hq, List.nil_append, down_V ha.dg] at h1
    exact h1

/-! ### quotients -/
theorem V_set_add : ∀ (q : List Int) (j y : Nat), Dg q → j < q.length → V (q.set j (q.getD j 0 + (y : Int))) = V q + 4294967296 ^ j * y
  | [], j, y, _, h => by simp at h
  | d :: q, 0, y, hg, _ => by
    have := hg.head
    simp; omega
  | d :: q, j + 1, y, hg, h => by
    have ih := V_set_add q j y hg.tail (by simpa using h)
    simp only [List.set_cons_succ, V_cons, List.getD_cons_succ, ih, Nat.pow_succ]
    generalize 4294967296 ^ j = p
    rw [Nat.mul_add, Nat.mul_comm p 4294967296, Nat.mul_assoc, Nat.add_assoc]
theorem bit_set {q : List Int} (hg : Dg q) {i Qv : Nat} (hi : i / 32 < q.length) (hv : V q = Qv * 2 ^ (i + 1)) :
    V (q.set (i / 32) (Go.bits .or .u32 (rd q ((i / 32 : Nat) : Int)) (shl .u32 1 ((i % 32 : Nat) : Int)))) = V q + 2 ^ i ∧ Dg (q.set (i / 32) (Go.bits .or .u32 (rd q ((i / 32 : Nat) : Int)) (shl .u32 1 ((i % 32 : Nat) : Int)))) := by
  have hx := hg.getD (i / 32)
  obtain ⟨X, hX⟩ := Int.eq_ofNat_of_zero_le hx.1
  have hX2 : X < 4294967296 := by omega
  have hd : q.drop (i / 32) = (X : Int) :: q.drop (i / 32 + 1) := by
    rw [List.drop_eq_getElem_cons (by omega)]
    congr 1
    rw [← hX, List.getD_eq_getElem?_getD, List.getElem?_eq_getElem (by omega)]; rfl
  have h1 := V_drop hg (i / 32)
  have hp : 0 < 4294967296 ^ (i / 32) := Nat.pow_pos (by omega)
  have e1 : 2 ^ (i + 1) = 4294967296 ^ (i / 32) * 2 ^ (i % 32 + 1) := by rw [Nat.pow_succ, pw_split i, Nat.mul_assoc, ← Nat.pow_succ]
  rw [hv, e1, Nat.mul_left_comm, Nat.mul_div_cancel_left _ hp, hd, V_cons, Int.toNat_natCast] at h1
  have e2 : X % 2 ^ (i % 32 + 1) = 0 := by
    have h3 := congrArg (· % 2 ^ (i % 32 + 1)) h1
    simp only [Nat.mul_mod_left] at h3
    rw [← pw (s := i % 32 + 1) (by omega), Nat.mul_assoc, Nat.add_mul_mod_self_left] at h3
    exact h3
  obtain ⟨z, hz⟩ := Nat.dvd_of_mod_eq_zero e2
  have hlt : 2 ^ (i % 32) < 2 ^ (i % 32 + 1) := Nat.pow_lt_pow_right (by omega) (by omega)
  have hor : X ||| 2 ^ (i % 32) = X + 2 ^ (i % 32) := by rw [hz, ← Nat.two_pow_add_eq_or_of_lt hlt]
  have hple : 2 ^ (i % 32) ≤ 2 ^ 31 := Nat.pow_le_pow_right (by omega) (by omega)
  have hsum : X + 2 ^ (i % 32) < 4294967296 := by
    have h4 := pw (s := i % 32 + 1) (by omega)
    have h5 : z < 2 ^ (32 - (i % 32 + 1)) := by
      apply Nat.lt_of_mul_lt_mul_left (a := 2 ^ (i % 32 + 1)); rw [h4, ← hz]; exact hX2
    have h6 := Nat.mul_le_mul_left (2 ^ (i % 32 + 1)) (Nat.succ_le_of_lt h5)
    rw [h4, Nat.mul_succ, ← hz] at h6
    omega
  have hsh : shl .u32 1 ((i % 32 : Nat) : Int) = ((2 ^ (i % 32) : Nat) : Int) := by
    rw [show (1 : Int) = ((1 : Nat) : Int) from rfl, shl32 1 (i % 32) (by omega), Nat.one_mul, Nat.mod_eq_of_lt (by omega)]
  have hval : Go.bits .or .u32 (rd q ((i / 32 : Nat) : Int)) (shl .u32 1 ((i % 32 : Nat) : Int)) = q.getD (i / 32) 0 + ((2 ^ (i % 32) : Nat) : Int) := by
    rw [rdn, hX, hsh, u32_or_nat _ _ hX2 (by omega), hor]; simp
  rw [hval]
  refine ⟨?_, hg.set _ (by omega) ?_⟩
  · rw [V_set_add q _ _ hg hi, ← pw_split]
  · rw [hX]
    have := lt_cast hsum
    rwa [Int.natCast_add] at this
end Go.Proofs.YtclegbgmhimenaaDoor.Eng.K

/- The first layer's reference: the quotient bit by bit. -/
set_option linter.unusedVariables false
set_option linter.unusedSimpArgs false
namespace Go.Proofs.YtclegbgmhimenaaDoor.Eng.K
open Go.RowKit

theorem V_pos {l : List Int} (h : Nm l) (h0 : l ≠ []) : V l ≠ 0 := fun e => h0 ((V_eq_zero h).1 e)
theorem cmpN_ge {m n : Nat} : (cmpN m n ≥ 0) ↔ n ≤ m := by
  unfold cmpN; split
  · constructor <;> intro h <;> omega
  · split <;> constructor <;> intro h <;> omega
theorem div_bit (n i : Nat) : n / 2 ^ i = 2 * (n / 2 ^ (i + 1)) + n / 2 ^ i % 2 := by
  rw [Nat.pow_succ, ← Nat.div_div_eq_div_mul]; omega
theorem rquo_l0 {a b : List Int} (ha : Nm a) (hb : Nm b) (la : a.length < 100000000) (lb : b.length < 100000000) : ∀ (i R Qv : Nat) (q : List Int), Dg q → q.length = a.length → i ≤ 32 * a.length → R < V b → V q = Qv * 2 ^ i → V a / 2 ^ i = Qv * V b + R →
    Ev (fun k => cutplaneref01_QuoRem.l0 k a b q (D R) ((i : Int) - 1)) (D (V a / V b), D (V a % V b))
  | 0, R, Qv, q, hg, hq, hi, hR, hv, hs => by
    refine ev_step ?_
    simp only [cutplaneref01_QuoRem.l0]
    refine ev_neg (by omega) (Ev.bind (ref_Trim_ev hg (by omega)) (ev_eq (Ev.now _) ?_))
    simp only [Nat.pow_zero, Nat.mul_one, Nat.div_one] at hv hs
    have h1 : V a / V b = Qv := by
      rw [hs, Nat.mul_comm, Nat.mul_add_div (by omega), Nat.div_eq_of_lt hR, Nat.add_zero]
    have h2 : V a % V b = R := by
      rw [hs, Nat.mul_comm, Nat.mul_add_mod, Nat.mod_eq_of_lt hR]
    rw [h1, h2, hv]
  | i + 1, R, Qv, q, hg, hq, hi, hR, hv, hs => by
    have e0 : ((i + 1 : Nat) : Int) - 1 = (i : Int) := by omega
    have e1 : wrap64 ((i : Int) - 1) = (i : Int) - 1 := w64m (by omega)
    have hbv := V_lt hb.dg
    have hRl : (D R).length ≤ b.length := D_lt (Nat.lt_trans hR hbv)
    have hpow : 4294967296 ^ (b.length + 1) = 4294967296 ^ b.length * 4294967296 := Nat.pow_succ ..
    have hdb := div_bit (V a) i
    rw [hs] at hdb
    have hbit : V a / 2 ^ i % 2 = 0 ∨ V a / 2 ^ i % 2 = 1 := by omega
    have hup := ref_Up_ev (Dg_D R) (by omega) 1 (by omega)
    rw [V_D, Nat.pow_one] at hup
    have hr2 : (D (R * 2)).length ≤ b.length + 1 := D_lt (by rw [hpow]; generalize 4294967296 ^ b.length = p at *; omega)
    -- behind the bit
    have rest : ∀ r : Nat, r = R * 2 + V a / 2 ^ i % 2 → Ev (fun k => cutplaneref01_QuoRem.j2 k a b q (D r) (i : Int)) (D (V a / V b), D (V a % V b)) := by
      intro r hr
      have hrl : (D r).length ≤ b.length + 1 := D_lt (by rw [hpow]; generalize 4294967296 ^ b.length = p at *; omega)
      have hs2 : V a / 2 ^ i = 2 * Qv * V b + r := by rw [hdb, hr, Nat.mul_add, Nat.mul_assoc]; omega
      refine ev_step ?_
      simp only [cutplaneref01_QuoRem.j2, t32 (n := i) (by omega), m32, e1]
      refine Ev.bind (ref_Cmp_ev (Nm_D r) hb (by omega)) ?_
      rw [V_D]
      by_cases hc : V b ≤ r
      · refine ev_pos (cmpN_ge.2 hc) ?_
        have hsub := ref_Sub_ev (Nm_D r) hb (by omega) (by rw [V_D]; exact hc)
        rw [V_D] at hsub
        refine Ev.bind hsub (ev_pos nn (ev_pos (by omega) (ev_pos nn (ev_pos nn (ev_pos (by omega) ?_)))))
        have hset := bit_set hg (i := i) (Qv := Qv) (by omega) hv
        rw [Int.toNat_natCast]
        refine rquo_l0 ha hb la lb i (r - V b) (2 * Qv + 1) _ hset.2 (by simp [hq]) (by omega) (by omega) ?_ ?_
        · rw [hset.1, hv, Nat.pow_succ, Nat.add_mul, Nat.one_mul]
          congr 1
          rw [Nat.mul_comm (2 ^ i), Nat.mul_comm 2 Qv, Nat.mul_assoc]
        · rw [hs2, Nat.add_mul, Nat.one_mul]; omega
      · refine ev_neg (fun h => hc (cmpN_ge.1 h)) ?_
        refine rquo_l0 ha hb la lb i r (2 * Qv) _ hg hq (by omega) (by omega) ?_ hs2
        rw [hv, Nat.pow_succ, Nat.mul_comm (2 ^ i), Nat.mul_comm 2 Qv, Nat.mul_assoc]
    rw [e0]
    refine ev_step ?_
    simp only [cutplaneref01_QuoRem.l0]
    refine ev_pos (by omega) (Ev.bind hup (ev_bind (ref_Bit_eq ha.dg (by omega) i (by omega)) ?_))
    rcases hbit with h | h
    · rw [h]
      exact ev_neg (by omega) (rest _ (by rw [h]; omega))
    · rw [h]
      refine ev_pos rfl ?_
      have hadd := ref_Add_ev (a := D (R * 2)) (b := [1]) (Dg_D _) (Dg.cons (by omega) (by omega) Dg.nil) (by omega) (by simp)
      rw [V_D] at hadd
      exact Ev.bind hadd (rest _ (by rw [h]; simp))
theorem ref_QuoRem_ev {a b : List Int} (ha : Nm a) (hb : Nm b) (la : a.length < 10000000) (lb : b.length < 10000000) (h0 : b ≠ []) : Ev (fun k => cutplaneref01_QuoRem.f k a b) (D (V a / V b), D (V a % V b)) := by
  unfold cutplaneref01_QuoRem.f
  by_cases h1 : b.length = 1
  · obtain ⟨d, rfl⟩ := List.length_eq_one_iff.1 h1
    have hd := hb.dg.head
    have hdne : d ≠ 0 := by
      have h2 := V_pos hb (by simp)
      simp at h2; omega
    (repeat (first | (with_reducible refine ev_pos ?_ ?_; focus (first | omega | assumption | (simp; done) | (simp; omega))) | (with_reducible refine ev_neg ?_ ?_; focus (first | omega | assumption | (simp; done) | (simp; omega)))))
    have h3 := ref_byDigit_ev ha.dg (by omega) (d := d) (by omega)
    have h4 : rd [d] 0 = d := by simp [rd]
    rw [h4]
    refine Ev.bind h3 (ev_eq (Ev.now _) ?_)
    simp
  · have hla := bl_list ha.dg
    have hlb := bl_list hb.dg
    have hb0 := V_pos hb h0
    have hbp := bl_pos hb0
    refine ev_neg (by omega) (ev_pos nn (ev_pos (by simp; omega) (Ev.bind (ref_Len_ev ha (by omega)) (Ev.bind (ref_Len_ev hb (by omega)) ?_))))
    generalize hL : (bl (V a) + 1 - bl (V b)) = left
    have e1 : mx 0 (wrap64 (wrap64 (((bl (V a) : Nat) : Int) - ((bl (V b) : Nat) : Int)) + 1)) = (left : Int) := by
      unfold mx wrap64; split <;> omega
    have e2 : wrap64 ((left : Int) - 1) = (left : Int) - 1 := by unfold wrap64; omega
    simp only [e1, e2, Int.toNat_natCast]
    obtain ⟨x, hx⟩ := ref_Down_ev ha (by omega) left (by omega)
    refine Ev.bind hx ?_
    have hq : V a / 2 ^ left < V b := by
      have h2 := bl_le hb0
      refine Nat.lt_of_lt_of_le ?_ h2
      rw [Nat.div_lt_iff_lt_mul (pw_pos _), ← Nat.pow_add]
      exact Nat.lt_of_lt_of_le (lt_bl _) (Nat.pow_le_pow_right (by omega) (by omega))
    exact rquo_l0 ha hb (by omega) (by omega) left (V a / 2 ^ left) 0 (List.replicate a.length 0) (Dg.zeros _) (by simp) (by omega) hq (by rw [V_zeros]; omega) (by omega)
end Go.Proofs.YtclegbgmhimenaaDoor.Eng.K

/- The first layer's long division: one digit of the quotient. -/
set_option linter.unusedVariables false
set_option linter.unusedSimpArgs false
namespace Go.Proofs.YtclegbgmhimenaaDoor.Eng.K
open Go.RowKit

/-! ### the guess -/
theorem guess_up {U3 V2 P ul vl Q : Nat} (hP : 0 < P) (hul : ul < P) (hQ : Q * (V2 * P + vl) ≤ U3 * P + ul) : Q * V2 ≤ U3 := by
  have h1 : Q * V2 * P ≤ Q * (V2 * P + vl) := by rw [Nat.mul_add, Nat.mul_assoc]; omega
  have h2 : Q * V2 * P < (U3 + 1) * P := by rw [Nat.add_mul, Nat.one_mul]; omega
  have := Nat.lt_of_mul_lt_mul_right h2
  omega
theorem guess_low {U3 V2 P ul vl g B : Nat} (hP : 0 < P) (hg : g * V2 ≤ U3) (hB : g < B) (hvl : vl < P) (hv : B * P ≤ V2 * P + vl) : g * (V2 * P + vl) < (U3 * P + ul) + (V2 * P + vl) := by
  have h1 : g * V2 * P ≤ U3 * P := Nat.mul_le_mul_right _ hg
  have h2 : g * vl ≤ g * P := Nat.mul_le_mul_left _ (by omega)
  have h3 : g * P < B * P := Nat.mul_lt_mul_of_pos_right hB hP
  rw [Nat.mul_add, ← Nat.mul_assoc]
  omega
theorem guess_test {g left v1 v2 top u2 B : Nat} (h : left + g * v1 = top) : g * (v1 * B + v2) ≤ top * B + u2 ↔ g * v2 ≤ left * B + u2 := by
  rw [← h, Nat.mul_add, Nat.add_mul, ← Nat.mul_assoc]; omega
theorem guess_break {g left v1 v2 top u2 B : Nat} (h : left + g * v1 = top) (ht : top < v1 * B + B) (hl : B ≤ left) (hv : v2 < B) : g < B ∧ g * (v1 * B + v2) ≤ top * B + u2 := by
  have hg : g < B := by
    rcases Nat.lt_or_ge g B with h1 | h1
    · exact h1
    · have := Nat.mul_le_mul_right v1 h1
      rw [Nat.mul_comm B] at this
      omega
  refine ⟨hg, (guess_test h).2 ?_⟩
  have h1 : g * v2 ≤ B * B := Nat.mul_le_mul (by omega) (by omega)
  have h2 : B * B ≤ left * B := Nat.mul_le_mul_right _ hl
  omega
theorem u64_n {n : Nat} (h : n < 18446744073709551616) : IntKind.u64.wrap (n : Int) = (n : Int) := u64 (by omega) (by omega)
theorem mul_lt64 {a b : Nat} (ha : a < 4294967296) (hb : b < 4294967296) : a * b ≤ 18446744065119617025 := by
  have := Nat.mul_le_mul (show a ≤ 4294967295 by omega) (show b ≤ 4294967295 by omega)
  omega
theorem or_dign (a b : Nat) (ha : a < 4294967296) (hb : b < 4294967296) : Go.bits .or .u64 (IntKind.u64.wrap ((a : Int) * 4294967296)) (b : Int) = ((a * 4294967296 + b : Nat) : Int) := by
  have e : (a : Int) * 4294967296 = ((a * 4294967296 : Nat) : Int) := by omega
  rw [e, u64_n (by omega), ← e, or_digit (by omega) (by omega)]; omega
theorem step_l0 {u v : List Int} {n v1 v2 u2 top Q : Nat} (hn : 2 ≤ n) (hnb : n < 1000000000) (hv : v.length = n) (hu : u.length = n + 1)
    (h1 : rd v ((n - 1 : Nat) : Int) = (v1 : Int)) (h2 : rd v ((n - 2 : Nat) : Int) = (v2 : Int)) (h3 : rd u ((n - 2 : Nat) : Int) = (u2 : Int))
    (b1 : v1 < 4294967296) (b2 : v2 < 4294967296) (b3 : u2 < 4294967296) (ht : top < v1 * 4294967296 + 4294967296)
    (hQ : Q * (v1 * 4294967296 + v2) ≤ top * 4294967296 + u2) (hQB : Q < 4294967296) {res : Int × List Int}
    (H : ∀ G : Nat, G < 4294967296 → Q ≤ G → G * (v1 * 4294967296 + v2) ≤ top * 4294967296 + u2 → Ev (fun k => nat_step.l1 k u v n G 0 0 v (v.length : Int) 0) res) :
    ∀ (g left : Nat), Q ≤ g → left + g * v1 = top → left < 4294967296 → g < 18446744073709551616 → Ev (fun k => nat_step.l0 k u v n g left) res
  | g, left, hg, hl, hlb, hgb => by
    have e1 : wrap64 ((n : Int) - 1) = ((n - 1 : Nat) : Int) := by unfold wrap64; omega
    have e2 : wrap64 ((n : Int) - 2) = ((n - 2 : Nat) : Int) := by unfold wrap64; omega
    -- what follows when the guess is above
    have tru : Q < g → Ev (fun k => if 0 ≤ ((n - 1 : Nat) : Int) then (if ((n - 1 : Nat) : Int) < (v.length : Int) then (if (IntKind.u64.wrap ((left : Int) + (v1 : Int))) ≥ 4294967296 then (nat_step.l1 k u v n (IntKind.u64.wrap ((g : Int) - 1)) 0 0 v (v.length : Int) 0) else (nat_step.l0 k u v n (IntKind.u64.wrap ((g : Int) - 1)) (IntKind.u64.wrap ((left : Int) + (v1 : Int))))) else none) else none) res := by
      intro hlt
      obtain ⟨g', rfl⟩ : ∃ g', g = g' + 1 := ⟨g - 1, by omega⟩
      have e3 : IntKind.u64.wrap (((g' + 1 : Nat) : Int) - 1) = (g' : Int) := by
        rw [show ((g' + 1 : Nat) : Int) - 1 = (g' : Int) by omega]; exact u64_n (by omega)
      have e4 : IntKind.u64.wrap ((left : Int) + (v1 : Int)) = ((left + v1 : Nat) : Int) := by
        rw [← Int.natCast_add]; exact u64_n (by omega)
      have hl2 : (left + v1) + g' * v1 = top := by rw [← hl, Nat.add_mul, Nat.one_mul]; omega
      simp only [e3, e4]
      refine ev_pos nn (ev_pos (by omega) ?_)
      by_cases hb : 4294967296 ≤ left + v1
      · obtain ⟨k1, k2⟩ := guess_break (u2 := u2) hl2 ht hb b2
        (repeat (first | (with_reducible refine ev_pos ?_ ?_; focus (first | omega | assumption | (simp; done) | (simp; omega))) | (with_reducible refine ev_neg ?_ ?_; focus (first | omega | assumption | (simp; done) | (simp; omega))))); exact H g' k1 (by omega) k2
      · (repeat (first | (with_reducible refine ev_pos ?_ ?_; focus (first | omega | assumption | (simp; done) | (simp; omega))) | (with_reducible refine ev_neg ?_ ?_; focus (first | omega | assumption | (simp; done) | (simp; omega))))); exact step_l0 hn hnb hv hu h1 h2 h3 b1 b2 b3 ht hQ hQB H g' (left + v1) (by omega) hl2 (by omega) (by omega)
    refine ev_step ?_
    simp only [nat_step.l0, e1, h1, u64_n (n := v1) (by omega)]
    by_cases hB : 4294967296 ≤ g
    · exact ev_pos (by omega) (tru (by omega))
    · have hm := mul_lt64 (a := g) (b := v2) (by omega) b2
      have e5 : IntKind.u64.wrap ((g : Int) * (v2 : Int)) = ((g * v2 : Nat) : Int) := by
        rw [← Int.natCast_mul]; exact u64_n (by omega)
      refine ev_neg (by omega) ?_
      simp only [e2, h2, h3, u64_n (n := v2) (by omega), u64_n (n := u2) (by omega), e5, or_dign left u2 hlb b3]
      refine ev_pos nn (ev_pos (by omega) (ev_pos nn (ev_pos (by omega) ?_)))
      by_cases hc : g * v2 ≤ left * 4294967296 + u2
      · exact ev_neg (by have := Int.ofNat_le.2 hc; omega) (H g (by omega) hg ((guess_test hl).2 hc))
      · refine ev_pos (by have := Int.ofNat_lt.2 (Nat.lt_of_not_le hc); omega) (tru ?_)
        rcases Nat.lt_or_ge Q g with h | h
        · exact h
        · have : g = Q := by omega
          subst this
          exact absurd ((guess_test hl).1 hQ) hc
termination_by g => g
end Go.Proofs.YtclegbgmhimenaaDoor.Eng.K

/- The first layer's long division: one row off, and the divisor back. -/
set_option linter.unusedVariables false
set_option linter.unusedSimpArgs false
namespace Go.Proofs.YtclegbgmhimenaaDoor.Eng.K
open Go.RowKit

theorem pow_s (n : Nat) : (4294967296 : Nat) ^ (n + 1) = 4294967296 ^ n * 4294967296 := Nat.pow_succ ..
def bw (x y : Nat) : Nat := if x < y then 1 else 0
def msRec (g : Nat) : List Int → List Int → Nat → Nat → List Int × Nat
  | d :: v, x :: u, c, b =>
    let r := msRec g v u ((c + g * d.toNat) / 4294967296) (bw x.toNat ((c + g * d.toNat) % 4294967296 + b))
    ((x - (((c + g * d.toNat) % 4294967296 : Nat) : Int) - (b : Int)) % 4294967296 :: r.1, r.2)
  | [], x :: u, c, b => ((x - (c : Int) - (b : Int)) % 4294967296 :: u, bw x.toNat (c + b))
  | _, [], c, b => ([], b)
theorem dig_sub {x t b : Nat} (hx : x < 4294967296) (ht : t < 4294967296) (hb : b ≤ 1) : (((x : Int) - (t : Int) - (b : Int)) % 4294967296).toNat + t + b = x + bw x (t + b) * 4294967296 := by
  unfold bw; split <;> omega
theorem carry_lt {g d c : Nat} (hg : g < 4294967296) (hd : d < 4294967296) (hc : c < 4294967296) : (c + g * d) / 4294967296 < 4294967296 := by
  have := mul_lt64 hg hd; omega
theorem bw_le (x y : Nat) : bw x y ≤ 1 := by unfold bw; split <;> omega
theorem msRec_V {g : Nat} (hg : g < 4294967296) : ∀ (v u : List Int) (c b : Nat), Dg v → Dg u → u.length = v.length + 1 → c < 4294967296 → b ≤ 1 →
    V (msRec g v u c b).1 + g * V v + c + b = V u + (msRec g v u c b).2 * 4294967296 ^ (v.length + 1) ∧ Dg (msRec g v u c b).1 ∧ (msRec g v u c b).1.length = u.length ∧ (msRec g v u c b).2 ≤ 1
  | [], x :: u, c, b, hv, hu, hl, hc, hb => by
    have hx := hu.head
    have : u = [] := List.eq_nil_of_length_eq_zero (by simpa using hl)
    subst this
    obtain ⟨X, rfl⟩ := Int.eq_ofNat_of_zero_le hx.1
    have h := dig_sub (x := X) (t := c) (b := b) (by omega) hc hb
    simp only [msRec, V_cons, V_nil, List.length_nil, Int.toNat_natCast, Nat.zero_add, Nat.pow_one]
    refine ⟨by omega, Dg.cons (by omega) (by omega) Dg.nil, rfl, bw_le _ _⟩
  | d :: v, x :: u, c, b, hv, hu, hl, hc, hb => by
    have hx := hu.head; have hd := hv.head
    obtain ⟨X, rfl⟩ := Int.eq_ofNat_of_zero_le hx.1
    obtain ⟨Y, rfl⟩ := Int.eq_ofNat_of_zero_le hd.1
    have hcl := carry_lt (d := Y) hg (by omega) hc
    have h := dig_sub (x := X) (t := (c + g * Y) % 4294967296) (b := b) (by omega) (by omega) hb
    have ih := msRec_V hg v u _ _ hv.tail hu.tail (by simpa using hl) hcl (bw_le X ((c + g * Y) % 4294967296 + b))
    have hdm := Nat.div_add_mod (c + g * Y) 4294967296
    simp only [msRec, V_cons, List.length_cons, Int.toNat_natCast]
    generalize msRec g v u ((c + g * Y) / 4294967296) (bw X ((c + g * Y) % 4294967296 + b)) = r at *
    refine ⟨?_, Dg.cons (by omega) (by omega) ih.2.1, by rw [ih.2.2.1], ih.2.2.2⟩
    have e1 := ih.1
    rw [pow_s (v.length + 1), Nat.mul_add g, Nat.mul_left_comm g]
    generalize 4294967296 ^ (v.length + 1) = p at *
    rw [← Nat.mul_assoc r.2]
    generalize r.2 * p = rp at *
    generalize g * V v = gv at *
    generalize g * Y = gy at *
    generalize bw X ((c + gy) % 4294967296 + b) = o at *
    omega
def abRec : List Int → List Int → Nat → List Int
  | d :: v, x :: u, c => (x + d + (c : Int)) % 4294967296 :: abRec v u ((x.toNat + d.toNat + c) / 4294967296)
  | [], x :: u, c => (x + (c : Int)) % 4294967296 :: u
  | _, [], c => []
theorem abRec_V : ∀ (v u : List Int) (c : Nat), Dg v → Dg u → u.length = v.length + 1 → c ≤ 1 →
    (∃ o : Nat, V (abRec v u c) + o * 4294967296 ^ (v.length + 1) = V u + V v + c) ∧ Dg (abRec v u c) ∧ (abRec v u c).length = u.length
  | [], x :: u, c, hv, hu, hl, hc => by
    have hx := hu.head
    have : u = [] := List.eq_nil_of_length_eq_zero (by simpa using hl)
    subst this
    obtain ⟨X, rfl⟩ := Int.eq_ofNat_of_zero_le hx.1
    simp only [abRec, V_cons, V_nil, List.length_nil, Int.toNat_natCast, Nat.zero_add, Nat.pow_one]
    refine ⟨⟨(X + c) / 4294967296, by omega⟩, Dg.cons (by omega) (by omega) Dg.nil, rfl⟩
  | d :: v, x :: u, c, hv, hu, hl, hc => by
    have hx := hu.head; have hd := hv.head
    obtain ⟨X, rfl⟩ := Int.eq_ofNat_of_zero_le hx.1
    obtain ⟨Y, rfl⟩ := Int.eq_ofNat_of_zero_le hd.1
    have ih := abRec_V v u ((X + Y + c) / 4294967296) hv.tail hu.tail (by simpa using hl) (by omega)
    simp only [abRec, V_cons, List.length_cons, Int.toNat_natCast]
    generalize abRec v u ((X + Y + c) / 4294967296) = r at *
    obtain ⟨⟨o, e1⟩, e2, e3⟩ := ih
    refine ⟨⟨o, ?_⟩, Dg.cons (by omega) (by omega) e2, by rw [e3]⟩
    rw [pow_s (v.length + 1)]
    generalize 4294967296 ^ (v.length + 1) = p at *
    rw [← Nat.mul_assoc o]
    generalize o * p = rp at *
    omega
/-- the loop that puts the divisor back -/
theorem step_l2 (Vl : List Int) (hV : Dg Vl) (hl : Vl.length < 1000000000) (G : Nat) (hG0 : 0 < G) (hG : G < 4294967297) : ∀ (v pv done u : List Int) (c : Nat), Vl = pv ++ v → done.length = pv.length → u.length = v.length + 1 → Dg u → c ≤ 1 →
    Ev (fun k => nat_step.l2 k (done ++ u) Vl.length G c Vl Vl.length pv.length) (((G - 1 : Nat) : Int), done ++ abRec v u c)
  | [], pv, done, u, c, he, hd, hlu, hu, hc => by
    have hlen : Vl.length = pv.length := by rw [he]; simp
    obtain ⟨x, rfl⟩ := List.length_eq_one_iff.1 (show u.length = 1 by simpa using hlu)
    have hx := hu.head
    refine ev_step ?_
    simp only [nat_step.l2]
    (repeat (first | (with_reducible refine ev_pos ?_ ?_; focus (first | omega | assumption | (simp; done) | (simp; omega))) | (with_reducible refine ev_neg ?_ ?_; focus (first | omega | assumption | (simp; done) | (simp; omega)))))
    refine ev_eq (Ev.now _) ?_
    have e3 : IntKind.u64.wrap ((G : Int) - 1) = ((G - 1 : Nat) : Int) := by
      rw [show (G : Int) - 1 = ((G - 1 : Nat) : Int) by omega]; exact u64_n (by omega)
    rw [e3, rd_app (xs := done) (ys := []) (y := x) (by omega), set_app (by omega)]
    simp [abRec]; omega
  | d :: v, pv, done, u, c, he, hd, hlu, hu, hc => by
    have hlen : Vl.length = pv.length + 1 + v.length := by rw [he]; simp; omega
    obtain ⟨x, u, rfl⟩ := List.exists_cons_of_ne_nil (show u ≠ [] by intro e; rw [e] at hlu; simp at hlu)
    have hx := hu.head
    have hdd : 0 ≤ d ∧ d < 4294967296 := by rw [he] at hV; exact hV.right.head
    refine ev_step ?_
    simp only [nat_step.l2, w64s (n := pv.length) (by omega)]
    have h1 : rd Vl (pv.length : Int) = d := by rw [he]; exact rd_app rfl
    have h2 : rd (done ++ x :: u) (pv.length : Int) = x := rd_app (by omega)
    rw [h1, h2]
    (repeat (first | (with_reducible refine ev_pos ?_ ?_; focus (first | omega | assumption | (simp; done) | (simp; omega))) | (with_reducible refine ev_neg ?_ ?_; focus (first | omega | assumption | (simp; done) | (simp; omega)))))
    refine ev_bind (add32_eq hx hdd (by omega)) ?_
    rw [set_app (by omega)]
    have := step_l2 Vl hV hl G hG0 hG v (pv ++ [d]) (done ++ [(x + d + (c : Int)) % 4294967296]) u ((x.toNat + d.toNat + c) / 4294967296) (by rw [he]; simp) (by simp [hd]) (by simpa using hlu) hu.tail (by omega)
    rw [List.length_append, List.length_singleton] at this
    have e4 : (x + d + (c : Int)) / 4294967296 = (((x.toNat + d.toNat + c) / 4294967296 : Nat) : Int) := by omega
    simp only [e4]
    (repeat (first | (with_reducible refine ev_pos ?_ ?_; focus (first | omega | assumption | (simp; done) | (simp; omega))) | (with_reducible refine ev_neg ?_ ?_; focus (first | omega | assumption | (simp; done) | (simp; omega)))))
    refine ev_eq this ?_
    simp [abRec]
end Go.Proofs.YtclegbgmhimenaaDoor.Eng.K

/- The first layer's long division: a digit of the quotient. -/
set_option linter.unusedVariables false
set_option linter.unusedSimpArgs false
namespace Go.Proofs.YtclegbgmhimenaaDoor.Eng.K
open Go.RowKit

theorem V_inj : ∀ (a b : List Int), Dg a → Dg b → a.length = b.length → V a = V b → a = b
  | [], [], _, _, _, _ => rfl
  | [], y :: b, _, _, h, _ => by simp at h
  | x :: a, [], _, _, h, _ => by simp at h
  | x :: a, y :: b, ha, hb, h, e => by
    have h1 := ha.head; have h2 := hb.head
    simp only [V_cons] at e
    have h3 : x = y := by omega
    subst h3
    rw [V_inj a b ha.tail hb.tail (by simpa using h) (by omega)]
/-- n's digits, k of them -/
def Dk (k n : Nat) : List Int := D n ++ List.replicate (k - (D n).length) 0
theorem Dk_V (k n : Nat) : V (Dk k n) = n := by unfold Dk; rw [V_append, V_zeros, V_D]; simp
theorem Dk_Dg (k n : Nat) : Dg (Dk k n) := (Dg_D n).app (Dg.zeros _)
theorem Dk_len {k n : Nat} (h : n < 4294967296 ^ k) : (Dk k n).length = k := by
  have := D_lt h
  unfold Dk; simp; omega
theorem Dk_eq {k n : Nat} {l : List Int} (h : Dg l) (hl : l.length = k) (hv : V l = n) : l = Dk k n := by
  have hk : n < 4294967296 ^ k := by rw [← hv, ← hl]; exact V_lt h
  exact V_inj _ _ h (Dk_Dg k n) (by rw [hl, Dk_len hk]) (by rw [hv, Dk_V])
theorem bw_int {X Y : Nat} : (if (X : Int) < (Y : Int) then (1 : Int) else 0) = ((bw X Y : Nat) : Int) := by
  unfold bw; split <;> split <;> omega
theorem step_l1 (Vl : List Int) (hV : Dg Vl) (hl : Vl.length < 1000000000) (G : Nat) (hG : G < 4294967296) : ∀ (v pv done u : List Int) (c b : Nat), Vl = pv ++ v → done.length = pv.length → Dg done → u.length = v.length + 1 → Dg u → c < 4294967296 → b ≤ 1 → ((msRec G v u c b).2 ≠ 0 → 0 < G) →
    Ev (fun k => nat_step.l1 k (done ++ u) Vl Vl.length G b c Vl Vl.length pv.length) (if (msRec G v u c b).2 = 0 then ((G : Int), done ++ (msRec G v u c b).1) else (((G - 1 : Nat) : Int), abRec Vl (done ++ (msRec G v u c b).1) 0))
  | [], pv, done, u, c, b, he, hd, hdg, hlu, hu, hc, hb, hG0 => by
    have hlen : Vl.length = pv.length := by rw [he]; simp
    have hms := msRec_V hG [] u c b Dg.nil hu hlu hc hb
    obtain ⟨x, rfl⟩ := List.length_eq_one_iff.1 (show u.length = 1 by simpa using hlu)
    have hx := hu.head
    obtain ⟨X, rfl⟩ := Int.eq_ofNat_of_zero_le hx.1
    have e0 : (c : Int) % 4294967296 = (c : Int) := by omega
    have e1 : (X : Int) - (c : Int) - (b : Int) = (X : Int) - (c : Int) - (b : Int) := rfl
    have e2 : (G : Int) % 4294967296 = (G : Int) := by omega
    refine ev_step ?_
    simp only [nat_step.l1, e0]
    (repeat (first | (with_reducible refine ev_pos ?_ ?_; focus (first | omega | assumption | (simp; done) | (simp; omega))) | (with_reducible refine ev_neg ?_ ?_; focus (first | omega | assumption | (simp; done) | (simp; omega)))))
    rw [rd_app (xs := done) (ys := []) (y := (X : Int)) (by omega)]
    refine ev_bind (sub32_eq hx (by omega) (by omega)) ?_
    rw [set_app (by omega), ← Int.natCast_add, bw_int]
    simp only [Option.bind_some, e2]
    have hm : msRec G [] [(X : Int)] c b = ([((X : Int) - (c : Int) - (b : Int)) % 4294967296], bw X (c + b)) := by simp [msRec]
    rw [hm] at hms hG0 ⊢
    have hap : done ++ [((X : Int) - (c : Int) - (b : Int)) % 4294967296] ++ [] = done ++ [((X : Int) - (c : Int) - (b : Int)) % 4294967296] := List.append_nil _
    rw [hap]
    by_cases h0 : bw X (c + b) = 0
    · simp only [h0]
      (repeat (first | (with_reducible refine ev_pos ?_ ?_; focus (first | omega | assumption | (simp; done) | (simp; omega))) | (with_reducible refine ev_neg ?_ ?_; focus (first | omega | assumption | (simp; done) | (simp; omega)))))
      exact ev_eq (Ev.now _) (by simp)
    · simp only [if_neg h0]
      (repeat (first | (with_reducible refine ev_pos ?_ ?_; focus (first | omega | assumption | (simp; done) | (simp; omega))) | (with_reducible refine ev_neg ?_ ?_; focus (first | omega | assumption | (simp; done) | (simp; omega)))))
      have := step_l2 Vl hV hl G (hG0 h0) (by omega) Vl [] [] (done ++ [((X : Int) - (c : Int) - (b : Int)) % 4294967296]) 0 rfl rfl (by simp; omega) (hdg.app hms.2.1) (by omega)
      simpa using this
  | d :: v, pv, done, u, c, b, he, hd, hdg, hlu, hu, hc, hb, hG0 => by
    have hlen : Vl.length = pv.length + 1 + v.length := by rw [he]; simp; omega
    obtain ⟨x, u, rfl⟩ := List.exists_cons_of_ne_nil (show u ≠ [] by intro e; rw [e] at hlu; simp at hlu)
    have hx := hu.head
    have hdd : 0 ≤ d ∧ d < 4294967296 := by rw [he] at hV; exact hV.right.head
    obtain ⟨X, rfl⟩ := Int.eq_ofNat_of_zero_le hx.1
    obtain ⟨Y, rfl⟩ := Int.eq_ofNat_of_zero_le hdd.1
    have hcl := carry_lt (d := Y) hG (by omega) hc
    have hm64 := mul_lt64 (a := G) (b := Y) hG (by omega)
    have h1 : rd Vl (pv.length : Int) = (Y : Int) := by rw [he]; exact rd_app rfl
    have h2 : rd (done ++ (X : Int) :: u) (pv.length : Int) = (X : Int) := rd_app (by omega)
    have e5 : IntKind.u64.wrap ((c : Int) + (IntKind.u64.wrap ((G : Int) * (IntKind.u64.wrap (Y : Int))))) = ((c + G * Y : Nat) : Int) := by
      rw [u64_n (n := Y) (by omega), ← Int.natCast_mul, u64_n (by omega), ← Int.natCast_add]
      exact u64_n (by omega)
    have e6 : ((c + G * Y : Nat) : Int) % 4294967296 = (((c + G * Y) % 4294967296 : Nat) : Int) := by generalize c + G * Y = t; omega
    have e7 : ((c + G * Y : Nat) : Int) / 4294967296 = (((c + G * Y) / 4294967296 : Nat) : Int) := by generalize c + G * Y = t; omega
    refine ev_step ?_
    simp only [nat_step.l1, h1, h2, e5, e6, e7, w64s (n := pv.length) (by omega)]
    (repeat (first | (with_reducible refine ev_pos ?_ ?_; focus (first | omega | assumption | (simp; done) | (simp; omega))) | (with_reducible refine ev_neg ?_ ?_; focus (first | omega | assumption | (simp; done) | (simp; omega)))))
    refine ev_bind (sub32_eq hx (by omega) (by omega)) ?_
    rw [set_app (by omega), ← Int.natCast_add, bw_int]
    have hbd : 0 ≤ ((X : Int) - (((c + G * Y) % 4294967296 : Nat) : Int) - (b : Int)) % 4294967296 ∧ ((X : Int) - (((c + G * Y) % 4294967296 : Nat) : Int) - (b : Int)) % 4294967296 < 4294967296 := by omega
    have := step_l1 Vl hV hl G hG v (pv ++ [(Y : Int)]) (done ++ [((X : Int) - (((c + G * Y) % 4294967296 : Nat) : Int) - (b : Int)) % 4294967296]) u ((c + G * Y) / 4294967296) (bw X ((c + G * Y) % 4294967296 + b)) (by rw [he]; simp) (by simp [hd]) (hdg.app (Dg.cons hbd.1 hbd.2 Dg.nil)) (by simpa using hlu) hu.tail hcl (bw_le _ _) (by simpa [msRec] using hG0)
    rw [List.length_append, List.length_singleton] at this
    (repeat (first | (with_reducible refine ev_pos ?_ ?_; focus (first | omega | assumption | (simp; done) | (simp; omega))) | (with_reducible refine ev_neg ?_ ?_; focus (first | omega | assumption | (simp; done) | (simp; omega)))))
    refine ev_eq this ?_
    simp only [msRec, Int.toNat_natCast, List.append_assoc, List.singleton_append]
    rfl
theorem top_le (T U2 P w : Nat) : T * (P * 4294967296) ≤ (T * 4294967296 + U2) * P + w := by
  rw [Nat.mul_comm P, ← Nat.mul_assoc, Nat.add_mul, Nat.add_assoc]; exact Nat.le_add_right _ _
theorem dm1 (Q a b c : Nat) : Q * a * c ≤ Q * (a * c + b) := by rw [Nat.mul_add, ← Nat.mul_assoc]; exact Nat.le_add_right _ _
theorem tdiv_n (a b : Nat) : Int.tdiv (a : Int) (b : Int) = ((a / b : Nat) : Int) := rfl
theorem tmod_n (a b : Nat) : Int.tmod (a : Int) (b : Int) = ((a % b : Nat) : Int) := rfl
theorem split2 {v : List Int} {n : Nat} (h : v.length = n + 2) : ∃ vl v2 v1, v = vl ++ [v2, v1] ∧ vl.length = n := by
  rcases List.eq_nil_or_concat v with rfl | ⟨a, d, rfl⟩
  · simp at h
  rcases List.eq_nil_or_concat a with rfl | ⟨b, e, rfl⟩
  · simp at h
  exact ⟨b, e, d, by simp, by simp at h; omega⟩
theorem split3 {u : List Int} {n : Nat} (h : u.length = n + 3) : ∃ ul u2 u1 u0, u = ul ++ [u2, u1, u0] ∧ ul.length = n := by
  rcases List.eq_nil_or_concat u with rfl | ⟨a, d, rfl⟩
  · simp at h
  obtain ⟨ul, u2, u1, rfl, h2⟩ := split2 (v := a) (n := n) (by simp at h; omega)
  exact ⟨ul, u2, u1, d, by simp, h2⟩
theorem rd_at {l : List Int} {n : Nat} {pre post : List Int} {y : Int} (h : l = pre ++ y :: post) (hn : pre.length = n) : rd l (n : Int) = y := by
  rw [h]; exact rd_app (by omega)
theorem nat_step_ev {u v : List Int} {m : Nat} (hv : Dg v) (hu : Dg u) (lv : v.length = m + 2) (lu : u.length = m + 3) (hm : m < 100000000) (htop : 4294967296 ^ (m + 1) ≤ V v) (hlt : V u < V v * 4294967296) :
    Ev (fun k => nat_step.f k u v) (((V u / V v : Nat) : Int), Dk (m + 3) (V u % V v)) := by
  obtain ⟨vl, v2, v1, rfl, lvl⟩ := split2 lv
  obtain ⟨ul, u2, u1, u0, rfl, lul⟩ := split3 lu
  have d2 := hv v2 (by simp); have d1 := hv v1 (by simp)
  have c2 := hu u2 (by simp); have c1 := hu u1 (by simp); have c0 := hu u0 (by simp)
  obtain ⟨V1, rfl⟩ := Int.eq_ofNat_of_zero_le d1.1
  obtain ⟨V2, rfl⟩ := Int.eq_ofNat_of_zero_le d2.1
  obtain ⟨U2, rfl⟩ := Int.eq_ofNat_of_zero_le c2.1
  obtain ⟨U1, rfl⟩ := Int.eq_ofNat_of_zero_le c1.1
  obtain ⟨U0, rfl⟩ := Int.eq_ofNat_of_zero_le c0.1
  have hP : 0 < 4294967296 ^ m := Nat.pow_pos (by omega)
  have hvl := V_lt hv.left; rw [lvl] at hvl
  have hul := V_lt hu.left; rw [lul] at hul
  have eV : V (vl ++ [(V2 : Int), (V1 : Int)]) = (V1 * 4294967296 + V2) * 4294967296 ^ m + V vl := by
    rw [V_append, lvl]; simp only [V_cons, V_nil, Int.toNat_natCast]
    rw [Nat.mul_comm (4294967296 ^ m), Nat.add_comm, show V2 + 4294967296 * (V1 + 4294967296 * 0) = V1 * 4294967296 + V2 by omega]
  have eU : V (ul ++ [(U2 : Int), (U1 : Int), (U0 : Int)]) = ((U0 * 4294967296 + U1) * 4294967296 + U2) * 4294967296 ^ m + V ul := by
    rw [V_append, lul]; simp only [V_cons, V_nil, Int.toNat_natCast]
    rw [Nat.mul_comm (4294967296 ^ m), Nat.add_comm, show U2 + 4294967296 * (U1 + 4294967296 * (U0 + 4294967296 * 0)) = (U0 * 4294967296 + U1) * 4294967296 + U2 by omega]
  have hpm := pow_s m
  have hvv := V_lt hv; rw [lv] at hvv
  have hvpos : 0 < V (vl ++ [(V2 : Int), (V1 : Int)]) := Nat.lt_of_lt_of_le (by rw [hpm]; omega) htop
  have hms0 := fun G (hG : G < 4294967296) => msRec_V (g := G) hG (vl ++ [(V2 : Int), (V1 : Int)]) (ul ++ [(U2 : Int), (U1 : Int), (U0 : Int)]) 0 0 hv hu (by rw [lv, lu]) (by omega) (by omega)
  have hab0 := fun r (hr : Dg r) (hl : r.length = m + 3) => abRec_V (vl ++ [(V2 : Int), (V1 : Int)]) r 0 hv hr (by rw [lv, hl]) (by omega)
  have hl1 := fun G (hG : G < 4294967296) => step_l1 (vl ++ [(V2 : Int), (V1 : Int)]) hv (by omega) G hG (vl ++ [(V2 : Int), (V1 : Int)]) [] [] (ul ++ [(U2 : Int), (U1 : Int), (U0 : Int)]) 0 0 rfl rfl Dg.nil (by rw [lv, lu]) hu (by omega) (by omega)
  have r1 : rd (vl ++ [(V2 : Int), (V1 : Int)]) ((m + 1 : Nat) : Int) = (V1 : Int) := rd_at (pre := vl ++ [(V2 : Int)]) (post := []) (by simp) (by simp [lvl])
  have r2 : rd (vl ++ [(V2 : Int), (V1 : Int)]) ((m : Nat) : Int) = (V2 : Int) := rd_at (pre := vl) (post := [(V1 : Int)]) rfl lvl
  have s2 : rd (ul ++ [(U2 : Int), (U1 : Int), (U0 : Int)]) ((m : Nat) : Int) = (U2 : Int) := rd_at (pre := ul) (post := [(U1 : Int), (U0 : Int)]) rfl lul
  have s1 : rd (ul ++ [(U2 : Int), (U1 : Int), (U0 : Int)]) ((m + 1 : Nat) : Int) = (U1 : Int) := rd_at (pre := ul ++ [(U2 : Int)]) (post := [(U0 : Int)]) (by simp) (by simp [lul])
  have s0 : rd (ul ++ [(U2 : Int), (U1 : Int), (U0 : Int)]) ((m + 2 : Nat) : Int) = (U0 : Int) := rd_at (pre := ul ++ [(U2 : Int), (U1 : Int)]) (post := []) (by simp) (by simp [lul])
  generalize hvE : vl ++ [(V2 : Int), (V1 : Int)] = v at *
  generalize huE : ul ++ [(U2 : Int), (U1 : Int), (U0 : Int)] = u at *
  have hv1 : 0 < V1 := by
    rcases Nat.eq_zero_or_pos V1 with h | h
    · exfalso
      subst h
      have h3 : (0 * 4294967296 + V2) * 4294967296 ^ m + V vl < 4294967296 * 4294967296 ^ m := by
        have h4 : (V2 + 1) * 4294967296 ^ m ≤ 4294967296 * 4294967296 ^ m := Nat.mul_le_mul_right _ (by omega)
        rw [Nat.add_mul] at h4
        rw [Nat.zero_mul, Nat.zero_add]; omega
      rw [← eV, Nat.mul_comm, ← hpm] at h3
      omega
    · exact h
  have hQB : V u / V v < 4294967296 := by rw [Nat.div_lt_iff_lt_mul hvpos, Nat.mul_comm]; exact hlt
  have hQ0 : V u / V v * V v ≤ V u := Nat.div_mul_le_self _ _
  have hR : V u % V v < V v := Nat.mod_lt _ hvpos
  have hdm : V v * (V u / V v) + V u % V v = V u := Nat.div_add_mod _ _
  have hdl0 : ∀ g, g * V v ≤ V u → g ≤ V u / V v := fun g h => (Nat.le_div_iff_mul_le hvpos).2 h
  generalize V u / V v = Qq at *
  generalize V u % V v = Rr at *
  have hQ2 : Qq * (V1 * 4294967296 + V2) ≤ (U0 * 4294967296 + U1) * 4294967296 + U2 := by
    refine guess_up (vl := V vl) hP hul ?_
    rw [← eV, ← eU]; exact hQ0
  have htl : U0 * 4294967296 + U1 < V1 * 4294967296 + 4294967296 := by
    have h1 : (U0 * 4294967296 + U1) * (4294967296 ^ m * 4294967296) < (V1 * 4294967296 + 4294967296) * (4294967296 ^ m * 4294967296) := by
      have h2 : (U0 * 4294967296 + U1) * (4294967296 ^ m * 4294967296) ≤ V u := by
        rw [eU]; exact top_le _ _ _ _
      have h3 : V v * 4294967296 ≤ (V1 * 4294967296 + 4294967296) * (4294967296 ^ m * 4294967296) := by
        rw [← Nat.mul_assoc]
        refine Nat.mul_le_mul_right _ ?_
        rw [eV]
        have h4 : (V1 * 4294967296 + V2 + 1) * 4294967296 ^ m ≤ (V1 * 4294967296 + 4294967296) * 4294967296 ^ m := Nat.mul_le_mul_right _ (by omega)
        rw [Nat.add_mul _ 1, Nat.one_mul] at h4
        omega
      omega
    exact Nat.lt_of_mul_lt_mul_right h1
  have H : ∀ G : Nat, G < 4294967296 → Qq ≤ G → G * (V1 * 4294967296 + V2) ≤ (U0 * 4294967296 + U1) * 4294967296 + U2 → Ev (fun k => nat_step.l1 k u v ((m + 2 : Nat) : Int) G 0 0 v (v.length : Int) 0) (((Qq : Nat) : Int), Dk (m + 3) (Rr)) := by
    intro G hG hge hg2
    have hlow : G * V v < V u + V v := by
      have := guess_low (ul := V ul) (B := 4294967296) hP hg2 hG hvl (by rw [← eV, Nat.mul_comm, ← hpm]; exact htop)
      rwa [← eV, ← eU] at this
    have hGQ : G = Qq ∨ G = Qq + 1 := by
      have h1 : (G - 1) * V v ≤ V u := by
        rcases Nat.eq_zero_or_pos G with h | h
        · subst h; simp
        · obtain ⟨g, rfl⟩ : ∃ g, G = g + 1 := ⟨G - 1, by omega⟩
          rw [Nat.add_mul, Nat.one_mul] at hlow
          simp; omega
      have := hdl0 _ h1
      omega
    obtain ⟨m1, m2, m3, m4⟩ := hms0 G hG
    have hl := hl1 G hG
    rw [lv] at m1
    rw [lu] at m3
    have m5 := V_lt m2; rw [m3] at m5
    have ab := hab0 _ m2 m3
    rw [lv] at ab
    generalize msRec G v u 0 0 = r at *
    obtain ⟨⟨o, ab1⟩, ab2, ab3⟩ := ab
    have ab4 := V_lt ab2; rw [ab3, m3] at ab4
    rw [show m + 2 + 1 = m + 3 from rfl] at m1 ab1
    have hvM : V v < 4294967296 ^ (m + 3) := by
      rw [pow_s (m + 2)]; omega
    generalize hM : 4294967296 ^ (m + 3) = M at *
    have hgv : ∀ q, q * V v = V v * q := fun q => Nat.mul_comm _ _
    have key : (if r.2 = 0 then ((G : Int), [] ++ r.1) else (((G - 1 : Nat) : Int), abRec v ([] ++ r.1) 0)) = (((Qq : Nat) : Int), Dk (m + 3) (Rr)) ∧ (r.2 ≠ 0 → 0 < G) := by
      have hmul : G = Qq + 1 → G * V v = V v * (Qq) + V v := fun h => by rw [h, Nat.mul_comm, Nat.mul_add, Nat.mul_one]
      have hmul0 : G = Qq → G * V v = V v * (Qq) := fun h => by rw [Nat.mul_comm, h]
      by_cases h0 : r.2 = 0
      · rw [h0, Nat.zero_mul] at m1
        have hG2 : G = Qq := by
          rcases hGQ with h | h
          · exact h
          · have := hmul h; omega
        refine ⟨?_, fun h => absurd h0 h⟩
        rw [if_pos h0, List.nil_append, Dk_eq m2 m3 (n := Rr) (by have := hmul0 hG2; omega), ← hG2]
      · have hr1 : r.2 = 1 := by omega
        rw [hr1, Nat.one_mul] at m1
        have hG2 : G = Qq + 1 := by
          rcases hGQ with h | h
          · exfalso; have := hmul0 h; omega
          · exact h
        have hmm := hmul hG2
        refine ⟨?_, fun _ => by omega⟩
        have ho : o = 1 := by
          rcases Nat.lt_or_ge o 1 with h | h
          · have : o = 0 := by omega
            subst this; omega
          · rcases Nat.lt_or_ge 1 o with h2 | h2
            · have := Nat.mul_le_mul_right M h2; omega
            · omega
        subst ho
        rw [if_neg h0, List.nil_append, Dk_eq ab2 (by rw [ab3, m3]) (n := Rr) (by omega)]
        congr 2; omega
    have hl2 := hl key.2
    rw [key.1] at hl2
    rw [lv] at hl2 ⊢
    simpa using hl2
  unfold nat_step.f
  have e1 : wrap64 (((m + 2 : Nat) : Int) - 1) = ((m + 1 : Nat) : Int) := by unfold wrap64; omega
  simp only [lv, lu, e1, r1, s1, s0]
  clear e1
  rw [u64_n (n := U0) (by omega), u64_n (n := U1) (by omega), u64_n (n := V1) (by omega), or_dign U0 U1 (by omega) (by omega)]
  (repeat (first | (with_reducible refine ev_pos ?_ ?_; focus (first | omega | assumption | (simp; done) | (simp; omega))) | (with_reducible refine ev_neg ?_ ?_; focus (first | omega | assumption | (simp; done) | (simp; omega)))))
  have hdl : (U0 * 4294967296 + U1) / V1 ≤ U0 * 4294967296 + U1 := Nat.div_le_self _ _
  rw [tdiv_n, tmod_n, u64_n (n := (U0 * 4294967296 + U1) / V1) (by omega)]
  have hml : (U0 * 4294967296 + U1) % V1 < V1 := Nat.mod_lt _ hv1
  have hdm2 := Nat.mod_add_div (U0 * 4294967296 + U1) V1
  refine step_l0 (n := m + 2) (top := U0 * 4294967296 + U1) (Q := Qq) (by omega) (by omega) lv lu r1 r2 s2 (by omega) (by omega) (by omega) htl hQ2 hQB H _ _ ?_ ?_ (by omega) (by omega)
  · rw [Nat.le_div_iff_mul_le hv1]
    have h1 : Qq * V1 * 4294967296 ≤ Qq * (V1 * 4294967296 + V2) := dm1 _ _ _ _
    have h2 := Nat.le_trans h1 hQ2
    generalize Qq * V1 = z at *
    omega
  · rw [Nat.mul_comm _ V1]; exact hdm2
end Go.Proofs.YtclegbgmhimenaaDoor.Eng.K

/- The first layer's long division. -/
set_option linter.unusedVariables false
set_option linter.unusedSimpArgs false
namespace Go.Proofs.YtclegbgmhimenaaDoor.Eng.K
open Go.RowKit

theorem V_take {l : List Int} (h : Dg l) {n : Nat} (hn : n ≤ l.length) : V (l.take n) = V l % 4294967296 ^ n := by
  have e : V l = V (l.take n) + 4294967296 ^ n * V (l.drop n) := by
    conv => lhs; rw [← List.take_append_drop n l, V_append, List.length_take, Nat.min_eq_left hn]
  rw [e, Nat.add_mul_mod_self_left, Nat.mod_eq_of_lt (V_take_lt h hn)]
theorem lz_ev {x : Int} (h : 0 ≤ x ∧ x < 4294967296) : Ev (fun k => bits_LeadingZeros32.f k x) ((32 - bl x.toNat : Nat) : Int) := by
  have hb : bl x.toNat ≤ 32 := bl_le_of_lt (by omega)
  unfold bits_LeadingZeros32.f
  refine Ev.bind (len32_ev h) (ev_eq (Ev.now _) ?_)
  unfold wrap64; omega
/-- room for one digit more -/
theorem long_l0 {a v : List Int} (s : Int) (ha : a.length < 10000000) {res : List Int × List Int} : ∀ (d : Nat) (u : List Int), u.length + d = a.length + 1 → v.length ≤ a.length →
    Ev (fun k => nat_long.l1 k s v (u ++ List.replicate d 0) v.length (List.replicate (a.length + 1 - v.length) 0) (((a.length + 1 - v.length : Nat) : Int) - 1)) res →
    Ev (fun k => nat_long.l0 k a s v u) res
  | 0, u, hu, hv, H => by
    refine ev_step ?_
    have e1 : wrap64 ((u.length : Int) - (v.length : Int)) = ((a.length + 1 - v.length : Nat) : Int) := by unfold wrap64; omega
    have e2 : wrap64 ((((List.replicate (a.length + 1 - v.length) (0 : Int)).length : Nat) : Int) - 1) = ((a.length + 1 - v.length : Nat) : Int) - 1 := by rw [List.length_replicate]; unfold wrap64; omega
    simp only [nat_long.l0, e1, Int.toNat_natCast, Option.bind_some, e2]
    (repeat (first | (with_reducible refine ev_pos ?_ ?_; focus (first | omega | assumption | (simp; done) | (simp; omega))) | (with_reducible refine ev_neg ?_ ?_; focus (first | omega | assumption | (simp; done) | (simp; omega)))))
    simpa using H
  | d + 1, u, hu, hv, H => by
    refine ev_step ?_
    simp only [nat_long.l0]
    (repeat (first | (with_reducible refine ev_pos ?_ ?_; focus (first | omega | assumption | (simp; done) | (simp; omega))) | (with_reducible refine ev_neg ?_ ?_; focus (first | omega | assumption | (simp; done) | (simp; omega)))))
    refine long_l0 s ha d (u ++ [0]) (by simp; omega) hv ?_
    have e : u ++ [0] ++ List.replicate d 0 = u ++ List.replicate (d + 1) 0 := by rw [List.append_assoc, List.replicate_succ]; rfl
    rw [e]; exact H
theorem div_mod_V (w p : Nat) : w = p * (w / p) + w % p := (Nat.div_add_mod w p).symm
theorem long_nat {B W Y T t R p Vu X L : Nat} (hW : W = T * (Y * (p * B)) + Vu) (hVu : Vu = p * X + L) (hX : X = Y * t + R) : W = (t + B * T) * (Y * p) + (L + p * R) := by
  rw [hW, hVu, hX, Nat.mul_add, Nat.add_mul]
  have e1 : T * (Y * (p * B)) = B * T * (Y * p) := by ac_rfl
  have e2 : p * (Y * t) = t * (Y * p) := by ac_rfl
  rw [e1, e2]; omega
def Pw (n M : Nat) : Prop := M = 4294967296 ^ n
theorem Pw.up {n M x : Nat} (hM : Pw n M) (h : x < M * 4294967296) : x < 4294967296 ^ (n + 1) := by rw [pow_s, ← hM]; exact h
theorem Pw.at {n M x : Nat} (hM : Pw n M) (h : x < M) : x < 4294967296 ^ n := by rw [← hM]; exact h
def Top (v : List Int) (m : Nat) : Prop := 4294967296 ^ (m + 1) ≤ V v
theorem Top.pos {v : List Int} {m : Nat} (h : Top v m) : 0 < V v := Nat.lt_of_lt_of_le (Nat.pow_pos (by omega)) h
theorem long_lt {R Y p L : Nat} (hR : R < Y) (hL : L < p) : L + p * R < Y * p := by
  have := Nat.mul_le_mul_left p (Nat.succ_le_of_lt hR)
  rw [Nat.mul_succ, Nat.mul_comm p Y] at this
  omega
theorem w3 {i m : Nat} (h1 : i < 100000000) (h2 : m < 100000000) : wrap64 (wrap64 ((i : Int) + ((m + 2 : Nat) : Int)) + 1) = ((i + (m + 3) : Nat) : Int) := by unfold wrap64; omega
def Inv (W T Y p Vu : Nat) : Prop := W = T * (Y * p) + Vu ∧ Vu < Y * p
theorem Inv.next {B W T Y p Vu X t R L : Nat} (h : Inv W T Y (p * B) Vu) (h1 : Vu = p * X + L) (h2 : X = Y * t + R) (h3 : R < Y) (h4 : L < p) : Inv W (t + B * T) Y p (L + p * R) :=
  ⟨long_nat h.1 h1 h2, long_lt h3 h4⟩
theorem Inv.quo {W T Y p B Vu : Nat} (h : Inv W T Y (p * B) Vu) (hp : 0 < p) : Vu / p < Y * B := by
  rw [Nat.div_lt_iff_lt_mul hp, Nat.mul_assoc, Nat.mul_comm B p]; exact h.2
theorem Inv.succ {W T Y i Vu : Nat} (h : Inv W T Y (4294967296 ^ (i + 1)) Vu) : Inv W T Y (4294967296 ^ i * 4294967296) Vu := by rw [← pow_s]; exact h
theorem Inv.end {W T Y Vu : Nat} (h : Inv W T Y (4294967296 ^ 0) Vu) (hp : 0 < Y) : W / Y = T ∧ W % Y = Vu ∧ Vu < Y := by
  obtain ⟨h1, h2⟩ := h
  rw [Nat.pow_zero, Nat.mul_one] at h1 h2
  exact ⟨by rw [h1, Nat.mul_comm, Nat.mul_add_div hp, Nat.div_eq_of_lt h2, Nat.add_zero], by rw [h1, Nat.mul_comm, Nat.mul_add_mod, Nat.mod_eq_of_lt h2], h2⟩
theorem piece_V {u : List Int} {i m N : Nat} (hu : Dg u) (lu : u.length = N) (hi : i + (m + 3) ≤ N) (hX : V u / 4294967296 ^ i < 4294967296 ^ (m + 3)) : V ((u.take (i + (m + 3))).drop i) = V u / 4294967296 ^ i ∧ V (u.drop (i + (m + 3))) = 0 := by
  have e : i + (m + 3) - i = m + 3 := Nat.add_sub_cancel_left ..
  constructor
  · rw [List.drop_take, e, V_take (hu.drop i) (by rw [List.length_drop, lu]; clear hX; omega), V_drop hu, Nat.mod_eq_of_lt hX]
  · rw [V_drop hu, Nat.pow_add, ← Nat.div_div_eq_div_mul, Nat.div_eq_of_lt hX]
theorem whole_V {u w : List Int} {i j R : Nat} (hi : i ≤ u.length) (hw : V w = R) (h0 : V (u.drop j) = 0) : V (u.take i ++ w ++ u.drop j) = V (u.take i) + 4294967296 ^ i * R := by
  rw [V_append, h0, V_append, List.length_take, Nat.min_eq_left hi, hw, Nat.mul_zero, Nat.add_zero]
theorem take_split_V {u : List Int} (hu : Dg u) {i : Nat} (hi : i ≤ u.length) : V u = 4294967296 ^ i * (V u / 4294967296 ^ i) + V (u.take i) := by rw [V_take hu hi]; exact div_mod_V _ _
theorem long_l1 {v : List Int} {m N s W : Nat} (hv : Dg v) (lv : v.length = m + 2) (hm : m < 10000000) (hN : N < 10000000) (hs : s < 1000000000) (htop : Top v m) {M : Nat} (hM : Pw (m + 2) M) (hvl : V v < M) : ∀ (i T : Nat) (u done : List Int), i + (m + 2) ≤ N → u.length = N → Dg u → Dg done → i + done.length + (m + 2) = N → V done = T → Inv W T (V v) (4294967296 ^ i) (V u) →
    Ev (fun k => nat_long.l1 k s v u ((m + 2 : Nat) : Int) (List.replicate i 0 ++ done) ((i : Int) - 1)) (D (W / V v), D (W % V v / 2 ^ s))
  | 0, T, u, done, hi, lu, hu, hdn, hdl, hT, hI => by
    obtain ⟨h1, h2, hlt⟩ := hI.end htop.pos
    have l1 : (D (V u)).length ≤ m + 2 := D_lt (hM.at (Nat.lt_trans hlt hvl))
    have l2 : (D (V u / 2 ^ s)).length ≤ m + 2 := D_lt (hM.at (Nat.lt_of_le_of_lt (Nat.div_le_self (V u) (2 ^ s)) (Nat.lt_trans hlt hvl)))
    have et : V (u.take (m + 2)) = V u := by rw [V_take hu (by omega), Nat.mod_eq_of_lt (hM.at (Nat.lt_trans hlt hvl))]
    rw [h1, h2]
    clear h1 h2 hlt hI
    refine ev_step ?_
    simp only [nat_long.l1]
    (repeat (first | (with_reducible refine ev_pos ?_ ?_; focus (first | omega | assumption | (simp; done) | (simp; omega))) | (with_reducible refine ev_neg ?_ ?_; focus (first | omega | assumption | (simp; done) | (simp; omega)))))
    refine Ev.bind (nat_trim_ev (l := List.replicate 0 0 ++ done) (by simpa using hdn) (by simp; omega)) ?_
    (repeat (first | (with_reducible refine ev_pos ?_ ?_; focus (first | omega | assumption | (simp; done) | (simp; omega))) | (with_reducible refine ev_neg ?_ ?_; focus (first | omega | assumption | (simp; done) | (simp; omega)))))
    refine Ev.bind (nat_trim_ev (hu.take _) (by simp; omega)) ?_
    rw [Int.toNat_natCast, et]
    refine Ev.bind (nat_down_ev (Dg_D _) (by omega) s (by omega)) ?_
    rw [V_D]
    refine Ev.bind (nat_trim_ev (Dg_D _) (by omega)) (ev_eq (Ev.now _) ?_)
    rw [V_D]; simp [hT]
  | i + 1, T, u, done, hi, lu, hu, hdn, hdl, hT, hI => by
    have hp : 0 < 4294967296 ^ i := Nat.pow_pos (Nat.zero_lt_succ _)
    have hI2 := hI.succ
    have hX := hI2.quo hp
    have hXM : V u / 4294967296 ^ i < M * 4294967296 := Nat.lt_trans hX (Nat.mul_lt_mul_of_pos_right hvl (Nat.zero_lt_succ _))
    obtain ⟨hpc, hdd⟩ := piece_V (i := i) (m := m) hu lu (by omega) (hM.up hXM)
    have hlen : ((u.take (i + (m + 3))).drop i).length = m + 3 := by rw [List.length_drop, List.length_take]; omega
    have hst := nat_step_ev (u := (u.take (i + (m + 3))).drop i) hv ((hu.take _).drop _) lv hlen (by omega) htop (by rw [hpc]; exact hX)
    rw [hpc] at hst
    have hsp := take_split_V hu (i := i) (by omega)
    have hLt : V (u.take i) < 4294967296 ^ i := V_take_lt hu (by omega)
    clear hI hp hpc
    generalize V u / 4294967296 ^ i = X at *
    have hR : X % V v < V v := Nat.mod_lt _ htop.pos
    have htB : X / V v < 4294967296 := by rw [Nat.div_lt_iff_lt_mul htop.pos, Nat.mul_comm]; exact hX
    have hdk : (Dk (m + 3) (X % V v)).length = m + 3 := Dk_len (hM.up (Nat.lt_of_le_of_lt (Nat.mod_le _ _) hXM))
    have hI3 := hI2.next hsp (div_mod_V X (V v)) hR hLt
    rw [← whole_V (u := u) (w := Dk (m + 3) (X % V v)) (by omega) (Dk_V _ _) hdd] at hI3
    clear hI2 hsp hLt hdd hX hXM hR
    have ih := long_l1 hv lv hm hN hs htop hM hvl i (X / V v + 4294967296 * T) (u.take i ++ Dk (m + 3) (X % V v) ++ u.drop (i + (m + 3))) (((X / V v : Nat) : Int) :: done) (by omega) (by simp [hdk]; omega) (((hu.take _).app (Dk_Dg _ _)).app (hu.drop _)) (Dg.cons nn (lt_cast htB) hdn) (by simp; omega) (by rw [V_cons, hT, Int.toNat_natCast]) hI3
    clear hI3 htB
    have e0 : ((i + 1 : Nat) : Int) - 1 = (i : Int) := by omega
    have e2 : wrap64 ((i : Int) - 1) = (i : Int) - 1 := w64m (by omega)
    have hs2 : (List.replicate (i + 1) (0 : Int) ++ done).set ((i : Int)).toNat ((X / V v : Nat) : Int) = List.replicate i 0 ++ ((X / V v : Nat) : Int) :: done := by
      rw [zeros_snoc, set_app (by simp)]; simp
    rw [e0]
    refine ev_step ?_
    simp only [nat_long.l1, w3 (i := i) (m := m) (by omega) (by omega), e2]
    clear e2 e0
    (repeat (first | (with_reducible refine ev_pos ?_ ?_; focus (first | omega | assumption | (simp; done) | (simp; omega))) | (with_reducible refine ev_neg ?_ ?_; focus (first | omega | assumption | (simp; done) | (simp; omega)))))
    simp only [Int.toNat_natCast]
    refine Ev.bind hst ?_
    (repeat (first | (with_reducible refine ev_pos ?_ ?_; focus (first | omega | assumption | (simp; done) | (simp; omega))) | (with_reducible refine ev_neg ?_ ?_; focus (first | omega | assumption | (simp; done) | (simp; omega)))))
    rw [Int.toNat_natCast] at hs2
    rw [hs2]
    exact ih
end Go.Proofs.YtclegbgmhimenaaDoor.Eng.K

/- The first layer's quotients. -/
set_option linter.unusedVariables false
set_option linter.unusedSimpArgs false
namespace Go.Proofs.YtclegbgmhimenaaDoor.Eng.K
open Go.RowKit

theorem up_len {b : List Int} {m d : Nat} (hb : Nm b) (lb : b.length = m + 2) (hd : (b.getD (m + 1) 0).toNat = d) : 0 < d ∧ d < 4294967296 ∧ 4294967296 ^ (m + 1) * d ≤ V b ∧ V b < 4294967296 ^ (m + 1) * (d + 1) := by
  obtain ⟨bl0, x2, x1, rfl, hl⟩ := split2 lb
  have e : bl0 ++ [x2, x1] = (bl0 ++ [x2]) ++ [x1] := by simp
  rw [e] at hb hd ⊢
  have hlen : (bl0 ++ [x2]).length = m + 1 := by simp [hl]
  have h1 := Nm_last hb
  have h2 := hb.dg x1 (by simp)
  have hv := V_lt hb.dg.left
  rw [hlen] at hv
  have hx : ((bl0 ++ [x2]) ++ [x1]).getD (m + 1) 0 = x1 := by rw [← hlen]; simp
  rw [hx] at hd
  rw [V_append, hlen]
  simp only [V_cons, V_nil, Nat.mul_zero, Nat.add_zero, hd]
  rw [Nat.mul_add, Nat.mul_one]
  generalize 4294967296 ^ (m + 1) = p at *
  refine ⟨by omega, by omega, by omega, by omega⟩
theorem norm_nat {Va Vb p d s B pi Ba : Nat} (hs : (d + 1) * 2 ^ s ≤ B) (h1 : p * d ≤ Vb) (h2 : Vb < p * (d + 1)) (hd : 0 < d) (hp : 0 < p) (ha : Va < Ba) (hB : Ba = p * pi) (hpi : 0 < pi) : Vb * 2 ^ s < p * B ∧ p ≤ Vb * 2 ^ s ∧ Va * 2 ^ s < Ba * B ∧ Va * 2 ^ s < Vb * 2 ^ s * pi := by
  have hz : 0 < 2 ^ s := pw_pos s
  have e1 : p ≤ Vb := Nat.le_trans (by have := Nat.mul_le_mul_left p hd; omega) h1
  have hsB : 2 ^ s ≤ B := Nat.le_trans (by have := Nat.mul_le_mul_right (2 ^ s) (show 1 ≤ d + 1 by omega); omega) hs
  generalize 2 ^ s = z at *
  refine ⟨?_, ?_, ?_, ?_⟩
  · refine Nat.lt_of_lt_of_le (Nat.mul_lt_mul_of_pos_right h2 hz) ?_
    rw [Nat.mul_assoc]; exact Nat.mul_le_mul_left _ hs
  · exact Nat.le_trans e1 (Nat.le_mul_of_pos_right _ hz)
  · exact Nat.lt_of_lt_of_le (Nat.mul_lt_mul_of_pos_right ha hz) (Nat.mul_le_mul_left _ hsB)
  · refine Nat.lt_of_lt_of_le (Nat.mul_lt_mul_of_pos_right ha hz) ?_
    rw [hB, Nat.mul_right_comm]
    exact Nat.mul_le_mul_right _ (Nat.mul_le_mul_right _ e1)
theorem nat_long_ev {a b : List Int} (ha : Nm a) (hb : Nm b) (la : a.length ≤ 4096) (lb : b.length ≤ a.length) (h2 : 2 ≤ b.length) : Ev (fun k => nat_long.f k a b) (D (V a / V b), D (V a % V b)) := by
  obtain ⟨m, lm⟩ : ∃ m, b.length = m + 2 := ⟨b.length - 2, by omega⟩
  obtain ⟨hd0, hdB, hlo, hhi⟩ := up_len hb lm rfl
  have hrd : rd b ((m + 1 : Nat) : Int) = b.getD (m + 1) 0 := rdn _ _
  have hdig := hb.dg.getD (m + 1)
  have hlz := lz_ev hdig
  generalize (b.getD (m + 1) 0).toNat = d at *
  have hbl : bl d ≤ 32 := bl_le_of_lt (by omega)
  have hblp : 0 < bl d := bl_pos (by omega)
  obtain ⟨s, hs⟩ : ∃ s, s = 32 - bl d := ⟨_, rfl⟩
  have hs32 : (d + 1) * 2 ^ s ≤ 4294967296 := by
    have h1 := Nat.mul_le_mul_right (2 ^ s) (Nat.succ_le_of_lt (lt_bl d))
    rw [hs, pw hbl] at h1
    rw [hs]; exact h1
  have hi : m + 1 + (a.length - (m + 1)) = a.length := by omega
  have hnn := norm_nat (Va := V a) (Vb := V b) (s := s) (B := 4294967296) (pi := 4294967296 ^ (a.length - (m + 1))) (Ba := 4294967296 ^ a.length) hs32 hlo hhi hd0 (Nat.pow_pos (Nat.zero_lt_succ _)) (V_lt ha.dg) (by rw [← Nat.pow_add, hi]) (Nat.pow_pos (Nat.zero_lt_succ _))
  obtain ⟨n1, n2, n3, n4⟩ := hnn
  rw [← pow_s] at n1 n3
  have hup1 := nat_up_ev hb.dg (by omega) s (by omega)
  have hup2 := nat_up_ev ha.dg (by omega) s (by omega)
  have lY : (D (V b * 2 ^ s)).length = m + 2 := by
    have h3 := D_lt n1
    rcases Nat.lt_or_ge (D (V b * 2 ^ s)).length (m + 2) with h4 | h4
    · exfalso
      have h5 := V_bd (Dg_D (V b * 2 ^ s)) (n := m + 1) (by omega)
      rw [V_D] at h5
      exact Nat.not_lt.2 n2 h5
    · omega
  have lW : (D (V a * 2 ^ s)).length ≤ a.length + 1 := D_lt n3
  have hT : Top (D (V b * 2 ^ s)) m := by unfold Top; rw [V_D]; exact n2
  have e1 : V a * 2 ^ s / (V b * 2 ^ s) = V a / V b := Nat.mul_div_mul_right _ _ (pw_pos s)
  have e2 : V a * 2 ^ s % (V b * 2 ^ s) / 2 ^ s = V a % V b := by rw [Nat.mul_mod_mul_right, Nat.mul_div_cancel _ (pw_pos s)]
  have hu : V (D (V a * 2 ^ s) ++ List.replicate (a.length + 1 - (D (V a * 2 ^ s)).length) 0) = V a * 2 ^ s := Dk_V (a.length + 1) (V a * 2 ^ s)
  have main := long_l1 (v := D (V b * 2 ^ s)) (m := m) (N := a.length + 1) (s := s) (W := V a * 2 ^ s) (Dg_D _) lY (by omega) (by omega) (by omega) hT (M := 4294967296 ^ (m + 2)) rfl (by rw [V_D]; exact n1) (a.length - (m + 1)) 0 (D (V a * 2 ^ s) ++ List.replicate (a.length + 1 - (D (V a * 2 ^ s)).length) 0) [] (by omega) (by rw [List.length_append, List.length_replicate]; omega) ((Dg_D _).app (Dg.zeros _)) Dg.nil (by rw [List.length_nil]; omega) rfl ⟨by rw [hu]; omega, by rw [hu, V_D]; exact n4⟩
  rw [V_D, e1, e2, List.append_nil] at main
  clear n1 n2 n3 n4 hlo hhi hT e1 e2 hu hs32
  unfold nat_long.f
  have e3 : wrap64 ((b.length : Int) - 1) = ((m + 1 : Nat) : Int) := by unfold wrap64; omega
  simp only [e3, hrd]
  clear e3
  (repeat (first | (with_reducible refine ev_pos ?_ ?_; focus (first | omega | assumption | (simp; done) | (simp; omega))) | (with_reducible refine ev_neg ?_ ?_; focus (first | omega | assumption | (simp; done) | (simp; omega)))))
  refine Ev.bind hlz ?_
  rw [← hs]
  refine Ev.bind hup1 (Ev.bind hup2 ?_)
  refine long_l0 (s : Int) (by omega) (a.length + 1 - (D (V a * 2 ^ s)).length) _ (by omega) (by omega) ?_
  have e4 : a.length + 1 - (m + 2) = a.length - (m + 1) := by omega
  rw [lY, e4]
  exact main
end Go.Proofs.YtclegbgmhimenaaDoor.Eng.K

/- The first layer's QuoRem. -/
set_option linter.unusedVariables false
set_option linter.unusedSimpArgs false
namespace Go.Proofs.YtclegbgmhimenaaDoor.Eng.K
open Go.RowKit

def quoR (m n : Nat) : List Int × List Int × Int := if n = 0 then ([], [], 11) else (D (m / n), D (m % n), 0)
theorem cmpN_lt {m n : Nat} : (cmpN m n < 0) ↔ m < n := by
  have := cmpN_ge (m := m) (n := n)
  constructor <;> intro h <;> omega
theorem Nm_len_le {a b : List Int} (ha : Nm a) (hb : Nm b) (h : V b ≤ V a) : b.length ≤ a.length := by
  have h1 := D_lt (Nat.lt_of_le_of_lt h (V_lt ha.dg))
  rwa [hb] at h1
theorem nat_QuoRem_ev {a b : List Int} (ha : Nm a) (hb : Nm b) (la : a.length ≤ 4096) (lb : b.length ≤ 4096) : Ev (fun k => nat_QuoRem.f k a b) (quoR (V a) (V b)) := by
  have hall := all2_ev ha.dg hb.dg (by omega) (by omega)
  rw [may_iff.2 ⟨la, ha⟩, may_iff.2 ⟨lb, hb⟩] at hall
  unfold nat_QuoRem.f quoR
  refine Ev.bind hall ?_
  (repeat (first | (with_reducible refine ev_pos ?_ ?_; focus (first | omega | assumption | (simp; done) | (simp; omega))) | (with_reducible refine ev_neg ?_ ?_; focus (first | omega | assumption | (simp; done) | (simp; omega)))))
  by_cases h0 : b = []
  · subst h0
    (repeat (first | (with_reducible refine ev_pos ?_ ?_; focus (first | omega | assumption | (simp; done) | (simp; omega))) | (with_reducible refine ev_neg ?_ ?_; focus (first | omega | assumption | (simp; done) | (simp; omega)))))
    exact ev_eq (Ev.now _) (by simp)
  have hb0 := V_pos hb h0
  have hlp : 0 < b.length := List.length_pos_iff.2 h0
  rw [if_neg hb0]
  (repeat (first | (with_reducible refine ev_pos ?_ ?_; focus (first | omega | assumption | (simp; done) | (simp; omega))) | (with_reducible refine ev_neg ?_ ?_; focus (first | omega | assumption | (simp; done) | (simp; omega)))))
  refine Ev.bind (nat_cmp_ev ha hb (by omega)) ?_
  (repeat (first | (with_reducible refine ev_pos ?_ ?_; focus (first | omega | assumption | (simp; done) | (simp; omega))) | (with_reducible refine ev_neg ?_ ?_; focus (first | omega | assumption | (simp; done) | (simp; omega)))))
  by_cases hc : V a < V b
  · refine ev_pos (cmpN_lt.2 hc) ?_
    (repeat (first | (with_reducible refine ev_pos ?_ ?_; focus (first | omega | assumption | (simp; done) | (simp; omega))) | (with_reducible refine ev_neg ?_ ?_; focus (first | omega | assumption | (simp; done) | (simp; omega)))))
    refine ev_eq (Ev.now _) ?_
    rw [Nat.div_eq_of_lt hc, Nat.mod_eq_of_lt hc, D_zero, ha]
  refine ev_neg (fun h => hc (cmpN_lt.1 h)) ?_
  by_cases h1 : b.length = 1
  · obtain ⟨d, rfl⟩ := List.length_eq_one_iff.1 h1
    have hd := hb.dg.head
    have hdne : d ≠ 0 := by simp at hb0; omega
    have h4 : rd [d] 0 = d := by simp [rd]
    have h5 : V [d] = d.toNat := by simp
    rw [h4, h5]
    (repeat (first | (with_reducible refine ev_pos ?_ ?_; focus (first | omega | assumption | (simp; done) | (simp; omega))) | (with_reducible refine ev_neg ?_ ?_; focus (first | omega | assumption | (simp; done) | (simp; omega)))))
    refine Ev.bind (nat_small_ev ha.dg (by omega) (d := d) (by omega)) ?_
    (repeat (first | (with_reducible refine ev_pos ?_ ?_; focus (first | omega | assumption | (simp; done) | (simp; omega))) | (with_reducible refine ev_neg ?_ ?_; focus (first | omega | assumption | (simp; done) | (simp; omega)))))
    have hm : V a % d.toNat < d.toNat := Nat.mod_lt _ (by omega)
    refine Ev.bind (nat_trim_ev (Dg.cons nn (lt_cast (by omega)) Dg.nil) (by simp)) ?_
    (repeat (first | (with_reducible refine ev_pos ?_ ?_; focus (first | omega | assumption | (simp; done) | (simp; omega))) | (with_reducible refine ev_neg ?_ ?_; focus (first | omega | assumption | (simp; done) | (simp; omega)))))
    refine ev_eq (Ev.now _) ?_
    simp only [V_cons, V_nil, Int.toNat_natCast, Nat.mul_zero, Nat.add_zero]
  · (repeat (first | (with_reducible refine ev_pos ?_ ?_; focus (first | omega | assumption | (simp; done) | (simp; omega))) | (with_reducible refine ev_neg ?_ ?_; focus (first | omega | assumption | (simp; done) | (simp; omega)))))
    refine Ev.bind (nat_long_ev ha hb la (Nm_len_le ha hb (by omega)) (by omega)) ?_
    (repeat (first | (with_reducible refine ev_pos ?_ ?_; focus (first | omega | assumption | (simp; done) | (simp; omega))) | (with_reducible refine ev_neg ?_ ?_; focus (first | omega | assumption | (simp; done) | (simp; omega)))))
    refine Ev.now _
end Go.Proofs.YtclegbgmhimenaaDoor.Eng.K

/- The place of the lowest bit: what it is; the program's way to it, and the reference's. -/
set_option linter.unusedVariables false
set_option linter.unusedSimpArgs false
namespace Go.Proofs.YtclegbgmhimenaaDoor.Eng.K
open Go.RowKit

theorem mx_n (a b : Nat) : mx (a : Int) (b : Int) = ((max a b : Nat) : Int) := by unfold mx; split <;> omega
theorem mx_eq (a b : Int) : mx a b = max a b := by unfold mx; split <;> omega
theorem mn_eq (a b : Int) : mn a b = min a b := by unfold mn; split <;> omega
theorem nat_Len_ev {l : List Int} (h : Nm l) (hb : l.length ≤ 4096) : Ev (fun k => nat_Len.f k l) ((bl (V l) : Nat) : Int) := by
  unfold nat_Len.f
  refine ev_bind (nat_May_eq h.dg (by omega)) ?_
  rw [may_iff.2 ⟨hb, h⟩]
  (repeat (first | (with_reducible refine ev_pos ?_ ?_; focus (first | omega | assumption | (simp; done) | (simp; omega))) | (with_reducible refine ev_neg ?_ ?_; focus (first | omega | assumption | (simp; done) | (simp; omega)))))
  by_cases c : l.length = 0
  · have : l = [] := List.eq_nil_of_length_eq_zero c
    subst this
    (repeat (first | (with_reducible refine ev_pos ?_ ?_; focus (first | omega | assumption | (simp; done) | (simp; omega))) | (with_reducible refine ev_neg ?_ ?_; focus (first | omega | assumption | (simp; done) | (simp; omega)))))
    exact ev_eq (Ev.now _) rfl
  · have e : wrap64 ((l.length : Int) - 1) = ((l.length - 1 : Nat) : Int) := by unfold wrap64; omega
    rw [e]
    clear e
    have hd := h.dg.getD (l.length - 1)
    have hne : l ≠ [] := fun e => c (by rw [e]; rfl)
    rw [rdn]
    (repeat (first | (with_reducible refine ev_pos ?_ ?_; focus (first | omega | assumption | (simp; done) | (simp; omega))) | (with_reducible refine ev_neg ?_ ?_; focus (first | omega | assumption | (simp; done) | (simp; omega)))))
    refine Ev.bind (len32_ev hd) (ev_eq (Ev.now _) ?_)
    rw [bl_V h hne]
    generalize l.getD (l.length - 1) 0 = x at hd
    have hbn : bl x.toNat ≤ 32 := bl_le_of_lt (by omega)
    unfold wrap64
    omega

/-- The lowest bit's place: n is 2 to it times an odd number. -/
def IsLow (n b : Nat) : Prop := ∃ m, n = 2 ^ b * (2 * m + 1)
theorem IsLow.ne {n b : Nat} (h : IsLow n b) : n ≠ 0 := by
  obtain ⟨m, h⟩ := h
  have := Nat.mul_pos (pw_pos b) (show 0 < 2 * m + 1 by omega)
  omega
theorem IsLow.le {n b : Nat} (h : IsLow n b) : 2 ^ b ≤ n := by
  obtain ⟨m, h⟩ := h
  rw [h]; exact Nat.le_mul_of_pos_right _ (by omega)
theorem IsLow.mod {n b k : Nat} (h : IsLow n b) : n % 2 ^ k = 0 ↔ k ≤ b := by
  obtain ⟨m, h⟩ := h
  constructor
  · intro hk
    rcases Nat.lt_or_ge b k with h1 | h1
    · exfalso
      obtain ⟨d, rfl⟩ := Nat.exists_eq_add_of_lt h1
      have hd : 2 ^ (b + d + 1) ∣ 2 ^ b * (2 * m + 1) := by rw [← h]; exact Nat.dvd_of_mod_eq_zero hk
      rw [Nat.add_assoc, Nat.pow_add] at hd
      have h2 := Nat.dvd_of_mul_dvd_mul_left (pw_pos b) hd
      rw [Nat.pow_succ] at h2
      have h3 : 2 ∣ 2 * m + 1 := Nat.dvd_trans (Nat.dvd_mul_left 2 _) h2
      omega
    · exact h1
  · intro hk
    obtain ⟨d, rfl⟩ := Nat.exists_eq_add_of_le hk
    rw [h, Nat.pow_add, Nat.mul_assoc]
    exact Nat.mul_mod_right _ _
theorem IsLow.unique {n b c : Nat} (h : IsLow n b) (k : IsLow n c) : b = c := by
  have h1 := (h.mod (k := b)).2 (Nat.le_refl _)
  have h2 := (k.mod (k := c)).2 (Nat.le_refl _)
  have h3 := k.mod.1 h1
  have h4 := h.mod.1 h2
  omega
theorem isLow_bit {n b : Nat} (h : n % 2 ^ b = 0) (k : n / 2 ^ b % 2 = 1) : IsLow n b :=
  ⟨n / 2 ^ b / 2, by
    have h1 := Nat.div_add_mod n (2 ^ b)
    rw [h, Nat.add_zero] at h1
    have h2 : 2 * (n / 2 ^ b / 2) + 1 = n / 2 ^ b := by omega
    rw [h2, h1]⟩
theorem isLow_up {n b k : Nat} (h : IsLow n b) : IsLow (n * 2 ^ k) (b + k) := by
  obtain ⟨m, h⟩ := h
  exact ⟨m, by rw [h, Nat.pow_add, Nat.mul_assoc, Nat.mul_comm (2 * m + 1), ← Nat.mul_assoc]⟩
theorem isLow_ctz {x : Nat} (h : x ≠ 0) (hx : x < 4294967296) : IsLow x (Lib.ctz 32 x) ∧ Lib.ctz 32 x < 32 := by
  obtain ⟨m, h1, h2⟩ := Lib.ctzFrom_spec 32 x (by omega) hx
  unfold Lib.ctz
  rw [if_neg h]
  exact ⟨⟨m, h1⟩, h2⟩
theorem isLow_add {x r b : Nat} (h : IsLow x b) (hb : b < 32) : IsLow (x + 4294967296 * r) b := by
  obtain ⟨m, h⟩ := h
  obtain ⟨d, hd⟩ : ∃ d, 32 = b + (d + 1) := ⟨31 - b, by omega⟩
  have e : 4294967296 = 2 ^ b * (2 ^ d * 2) := by
    rw [← Nat.pow_succ, ← Nat.pow_add, Nat.succ_eq_add_one, ← hd]
  have e2 : 2 ^ b * (2 ^ d * 2) * r = 2 ^ b * (2 * (2 ^ d * r)) := by
    rw [Nat.mul_assoc, Nat.mul_comm (2 ^ d) 2, Nat.mul_assoc]
  refine ⟨m + 2 ^ d * r, ?_⟩
  rw [h, e, e2, ← Nat.mul_add]
  congr 1
  omega
def lw (n : Nat) : Nat := if n = 0 then 0 else Lib.ctzFrom n n
theorem lw_is {n : Nat} (h : n ≠ 0) : IsLow n (lw n) := by
  obtain ⟨m, h1, _⟩ := Lib.ctzFrom_spec n n (by omega) Nat.lt_two_pow_self
  unfold lw
  rw [if_neg h]
  exact ⟨m, h1⟩
theorem lw_eq {n b : Nat} (h : IsLow n b) : lw n = b := (lw_is h.ne).unique h
theorem tz_eq {x : Int} (h : 0 ≤ x ∧ x < 4294967296) : bits_TrailingZeros32.f x = some ((Lib.ctz 32 x.toNat : Nat) : Int) := by
  unfold bits_TrailingZeros32.f
  rw [if_pos h]
theorem w32a {i b : Nat} (hi : i < 1000000) (hb : b < 32) : wrap64 (wrap64 (32 * (i : Int)) + (b : Int)) = ((b + 32 * i : Nat) : Int) := by unfold wrap64; omega
theorem nlow_l0 (A : List Int) (hA : Dg A) (hl : A.length < 1000000) : ∀ (a pa : List Int), A = pa ++ a → V pa = 0 → Ev (fun k => nat_Low.l0 k A A.length pa.length) ((lw (V A) : Nat) : Int)
  | [], pa, he, hv => by
    have hlen : A.length = pa.length := by rw [he]; simp
    refine ev_step ?_
    simp only [nat_Low.l0]
    (repeat (first | (with_reducible refine ev_pos ?_ ?_; focus (first | omega | assumption | (simp; done) | (simp; omega))) | (with_reducible refine ev_neg ?_ ?_; focus (first | omega | assumption | (simp; done) | (simp; omega)))))
    refine ev_eq (Ev.now _) ?_
    have : V A = 0 := by rw [he, List.append_nil, hv]
    rw [this]; rfl
  | d :: a, pa, he, hv => by
    have hlen : A.length = pa.length + 1 + a.length := by rw [he]; simp; omega
    have hdd : 0 ≤ d ∧ d < 4294967296 := by rw [he] at hA; exact hA.right.head
    have h1 : rd A (pa.length : Int) = d := by rw [he]; exact rd_app rfl
    refine ev_step ?_
    simp only [nat_Low.l0, h1, w64s (n := pa.length) (by omega)]
    (repeat (first | (with_reducible refine ev_pos ?_ ?_; focus (first | omega | assumption | (simp; done) | (simp; omega))) | (with_reducible refine ev_neg ?_ ?_; focus (first | omega | assumption | (simp; done) | (simp; omega)))))
    by_cases h0 : d = 0
    · refine ev_neg (fun h => h h0) ?_
      have := nlow_l0 A hA hl a (pa ++ [0]) (by rw [he, h0]; simp) (by rw [V_snoc_zero, hv])
      rwa [@List.length_append _ pa, List.length_singleton] at this
    · refine ev_pos h0 ?_
      refine ev_bind (tz_eq hdd) ?_
      (repeat (first | (with_reducible refine ev_pos ?_ ?_; focus (first | omega | assumption | (simp; done) | (simp; omega))) | (with_reducible refine ev_neg ?_ ?_; focus (first | omega | assumption | (simp; done) | (simp; omega)))))
      refine ev_eq (Ev.now _) ?_
      have hz := isLow_ctz (x := d.toNat) (by omega) (by omega)
      have e : V A = (d.toNat + 4294967296 * V a) * 2 ^ (32 * pa.length) := by
        rw [he, V_append, hv, V_cons, Nat.zero_add, Nat.mul_comm, Nat.pow_mul]
      rw [e, lw_eq (isLow_up (isLow_add hz.1 hz.2)), w32a (by omega) hz.2]
theorem nat_Low_ev {a : List Int} (ha : Nm a) (la : a.length ≤ 4096) : Ev (fun k => nat_Low.f k a) ((lw (V a) : Nat) : Int) := by
  unfold nat_Low.f
  refine ev_bind (nat_May_eq ha.dg (by omega)) ?_
  rw [may_iff.2 ⟨la, ha⟩]
  (repeat (first | (with_reducible refine ev_pos ?_ ?_; focus (first | omega | assumption | (simp; done) | (simp; omega))) | (with_reducible refine ev_neg ?_ ?_; focus (first | omega | assumption | (simp; done) | (simp; omega)))))
  exact nlow_l0 a ha.dg (by omega) a [] rfl rfl
theorem V_digit {l : List Int} (h : Dg l) (q : Nat) : V l / 4294967296 ^ q % 4294967296 = (l.getD q 0).toNat := by
  have h1 := V_headtail (l.drop q)
  rw [drop_headD, V_drop h] at h1
  have h2 := h.getD q
  rw [h1, Nat.add_mul_mod_self_left, Nat.mod_eq_of_lt (by omega)]
theorem mod_next {n i : Nat} (h : n % 2 ^ i = 0) (k : n / 2 ^ i % 2 = 0) : n % 2 ^ (i + 1) = 0 := by
  rw [Nat.pow_succ, Nat.mod_mul, h, k, Nat.mul_zero]
theorem mod_dig {n q : Nat} (h : n % 2 ^ (32 * q) = 0) (k : n / 4294967296 ^ q % 4294967296 = 0) : n % 2 ^ (32 * q + 32) = 0 := by
  have e : 2 ^ (32 * q + 32) = 2 ^ (32 * q) * 4294967296 := by rw [Nat.pow_add]
  have e2 : 4294967296 ^ q = 2 ^ (32 * q) := by rw [Nat.pow_mul]
  rw [e, Nat.mod_mul, h, ← e2, k, Nat.mul_zero]
theorem rlow_end {l : List Int} (h : Dg l) {i : Nat} (hi : i = 32 * l.length) (hm : V l % 2 ^ i = 0) : V l = 0 := by
  have hv := V_lt h
  have e2 : 4294967296 ^ l.length = 2 ^ (32 * l.length) := by rw [Nat.pow_mul]
  rw [e2, ← hi] at hv
  rwa [Nat.mod_eq_of_lt hv] at hm
theorem dv32 {i m : Nat} (h : i < 32 * m) : ((i / 32 : Nat) : Int) < (m : Int) := by omega
theorem st32 {i : Nat} (h : i < 100000000000) : wrap64 ((i : Int) + 1) = ((i + 1 : Nat) : Int) ∧ wrap64 ((i : Int) + 32) = ((i + 32 : Nat) : Int) := by unfold wrap64; omega
theorem rlow_l0 {l : List Int} (h : Dg l) (hl : l.length < 1000000000) (n : Nat) : ∀ (i : Nat), 32 * l.length - i ≤ n → i ≤ 32 * l.length → V l % 2 ^ i = 0 → (i % 32 = 0 ∨ l.getD (i / 32) 0 ≠ 0) → Ev (fun k => cutplaneref01_Low.l0 k l i) ((lw (V l) : Nat) : Int) := by
  induction n using Nat.strongRecOn with
  | _ n ih =>
    intro i hn hi hm hd
    have e32 : wrap64 (32 * (l.length : Int)) = ((32 * l.length : Nat) : Int) := by unfold wrap64; omega
    refine ev_step ?_
    simp only [cutplaneref01_Low.l0, e32]
    by_cases hlt : i < 32 * l.length
    · have hb := ref_Bit_eq h hl i (by clear hm hd; omega)
      refine ev_pos (by clear hm hd; omega) ?_
      refine ev_bind hb ?_
      have hi9 : i < 100000000000 := by clear hm hd; omega
      have hn1 : 32 * l.length - (i + 1) < n := by clear hm hd; omega
      have hn32 : 32 * l.length - (i + 32) < n := by clear hm hd; omega
      have hi1 : i + 1 ≤ 32 * l.length := hlt
      have hi32 : i % 32 = 0 → i + 32 ≤ 32 * l.length := by clear hm hd; omega
      have hne : i ≠ 32 * l.length := by clear hm hd; omega
      have et : wrap64 (Int.tdiv (i : Int) 32) = ((i / 32 : Nat) : Int) := t32 (by clear hm hd; omega)
      have hdv := dv32 hlt
      simp only [et, rdn]
      rw [(st32 hi9).1, (st32 hi9).2]
      clear et e32
      rcases Nat.mod_two_eq_zero_or_one (V l / 2 ^ i) with hz | hz
      · rw [hz]
        refine ev_pos rfl (ev_pos nn (ev_pos hdv ?_))
        by_cases h0 : l.getD (i / 32) 0 = 0
        · have hi0 : i % 32 = 0 := hd.resolve_right (fun h => h h0)
          have hi33 := hi32 hi0
          obtain ⟨q, hq0⟩ : ∃ q, i = 32 * q := ⟨i / 32, by clear hm hd hz; omega⟩
          subst hq0
          have hq : 32 * q / 32 = q := by clear hm hd hz; omega
          rw [hq] at h0
          rw [hq]
          refine ev_pos h0 ?_
          refine ih _ hn32 (32 * q + 32) (Nat.le_refl _) hi33 (mod_dig hm ?_) (.inl ?_)
          · rw [V_digit h, h0]; rfl
          · clear hm hd hz; omega
        · refine ev_neg h0 ?_
          refine ih _ hn1 (i + 1) (Nat.le_refl _) hi1 (mod_next hm hz) ?_
          clear hm hd hz
          rcases Nat.eq_zero_or_pos ((i + 1) % 32) with h1 | h1
          · exact .inl h1
          · have : (i + 1) / 32 = i / 32 := by omega
            rw [this]; exact .inr h0
      · rw [hz]
        refine ev_neg (by decide) ?_
        refine ev_neg (fun e => hne (Int.ofNat.inj e)) ?_
        refine ev_eq (Ev.now _) ?_
        rw [lw_eq (isLow_bit hm hz)]
    · have hi2 : i = 32 * l.length := by clear hm hd; omega
      refine ev_neg (by clear hm hd; omega) ?_
      refine ev_pos (by rw [hi2]) ?_
      refine ev_eq (Ev.now _) ?_
      rw [rlow_end h hi2 hm]; rfl
theorem ref_Low_ev {l : List Int} (h : Dg l) (hl : l.length < 1000000000) : Ev (fun k => cutplaneref01_Low.f k l) ((lw (V l) : Nat) : Int) := by
  unfold cutplaneref01_Low.f
  exact rlow_l0 h hl _ 0 (Nat.le_refl _) (by omega) (by rw [Nat.pow_zero, Nat.mod_one]) (.inl rfl)
theorem lw_mod {n k : Nat} (h : n ≠ 0) : k > lw n ↔ n % 2 ^ k ≠ 0 := by
  have := (lw_is h).mod (k := k)
  constructor
  · intro h1 h2; have := this.1 h2; omega
  · intro h1; rcases Nat.lt_or_ge (lw n) k with h2 | h2
    · exact h2
    · exact absurd (this.2 h2) h1
theorem ref_Down_is {a : List Int} (ha : Nm a) (la : a.length < 100000000) (n : Nat) (hn : n < 1000000000) : Ev (fun k => cutplaneref01_Down.f k a n) (D (V a / 2 ^ n), decide (V a % 2 ^ n ≠ 0)) := by
  unfold cutplaneref01_Down.f
  have hlt := lt_bl (V a)
  by_cases h : n ≥ bl (V a)
  · have hp : V a < 2 ^ n := Nat.lt_of_lt_of_le hlt (Nat.pow_le_pow_right (by omega) h)
    refine Ev.bind (ref_Len_ev ha (by omega)) ?_
    (repeat (first | (with_reducible refine ev_pos ?_ ?_; focus (first | omega | assumption | (simp; done) | (simp; omega))) | (with_reducible refine ev_neg ?_ ?_; focus (first | omega | assumption | (simp; done) | (simp; omega)))))
    refine ev_eq (Ev.now _) ?_
    rw [Nat.div_eq_of_lt hp, D_zero, Nat.mod_eq_of_lt hp]
    congr 1
    refine decide_eq_decide.2 ?_
    have := V_eq_zero ha
    have hl : a.length = 0 ↔ a = [] := List.length_eq_zero_iff
    constructor
    · intro h1 h2; have := hl.2 (this.1 h2); omega
    · intro h1
      rcases Nat.eq_zero_or_pos a.length with h3 | h3
      · exact absurd (this.2 (hl.1 h3)) h1
      · omega
  · have h0 : V a ≠ 0 := by
      intro h0; rw [h0, bl_zero] at h; omega
    refine Ev.bind (ref_Len_ev ha (by omega)) ?_
    (repeat (first | (with_reducible refine ev_pos ?_ ?_; focus (first | omega | assumption | (simp; done) | (simp; omega))) | (with_reducible refine ev_neg ?_ ?_; focus (first | omega | assumption | (simp; done) | (simp; omega)))))
    refine Ev.bind (ref_Low_ev ha.dg (by omega)) ?_
    (repeat (first | (with_reducible refine ev_pos ?_ ?_; focus (first | omega | assumption | (simp; done) | (simp; omega))) | (with_reducible refine ev_neg ?_ ?_; focus (first | omega | assumption | (simp; done) | (simp; omega)))))
    have hd : decide ((n : Int) > ((lw (V a) : Nat) : Int)) = decide (V a % 2 ^ n ≠ 0) := decide_eq_decide.2 (by rw [← lw_mod h0]; omega)
    rw [hd]
    simp only [t32 (n := n) (by omega), m32]
    have hbl := bl_list ha.dg
    have hq : n / 32 ≤ a.length := by omega
    have h1 := rdown_l0 a ha.dg (by omega) (decide (V a % 2 ^ n ≠ 0)) (s := n % 32) (by omega) (a.drop (n / 32)) [] (a.take (n / 32)) (by simp) (by simp; omega) Dg.nil
    rw [List.length_take, Nat.min_eq_left hq, List.nil_append, down_V ha.dg] at h1
    exact h1
def shiftR (v : Nat) (n : Int) : List Int × Bool × Int :=
  if v = 0 then ([], false, 0) else if n < -131072 then ([], true, 0) else if n < 0 then (D (v / 2 ^ (-n).toNat), decide (v % 2 ^ (-n).toNat ≠ 0), 0) else if n > 131072 - (bl v : Int) then ([], false, 3) else (D (v * 2 ^ n.toNat), false, 0)
theorem nat_Shift_ev {a : List Int} (ha : Nm a) (la : a.length ≤ 4096) (n : Int) : Ev (fun k => nat_Shift.f k a n) (shiftR (V a) n) := by
  unfold nat_Shift.f shiftR
  refine ev_bind (nat_May_eq ha.dg (by omega)) ?_
  rw [may_iff.2 ⟨la, ha⟩]
  (repeat (first | (with_reducible refine ev_pos ?_ ?_; focus (first | omega | assumption | (simp; done) | (simp; omega))) | (with_reducible refine ev_neg ?_ ?_; focus (first | omega | assumption | (simp; done) | (simp; omega)))))
  by_cases c : a = []
  · subst c
    (repeat (first | (with_reducible refine ev_pos ?_ ?_; focus (first | omega | assumption | (simp; done) | (simp; omega))) | (with_reducible refine ev_neg ?_ ?_; focus (first | omega | assumption | (simp; done) | (simp; omega)))))
    exact ev_eq (Ev.now _) (by simp)
  have h0 : V a ≠ 0 := fun h => c ((V_eq_zero ha).1 h)
  have hl : a.length ≠ 0 := fun h => c (List.eq_nil_of_length_eq_zero h)
  have hbl := bl_list ha.dg
  rw [if_neg h0]
  (repeat (first | (with_reducible refine ev_pos ?_ ?_; focus (first | omega | assumption | (simp; done) | (simp; omega))) | (with_reducible refine ev_neg ?_ ?_; focus (first | omega | assumption | (simp; done) | (simp; omega)))))
  by_cases h1 : n < -131072
  · rw [if_pos h1]; exact ev_pos h1 (Ev.now _)
  rw [if_neg h1]
  refine ev_neg h1 ?_
  by_cases h2 : n < 0
  · rw [if_pos h2]
    have e : wrap64 (-n) = (((-n).toNat : Nat) : Int) := by unfold wrap64; omega
    rw [e]
    clear e
    have hm : (-n).toNat ≤ 131072 := by omega
    generalize (-n).toNat = m at *
    refine ev_pos h2 ?_
    refine Ev.bind (nat_down_ev ha.dg (by omega) m (by omega)) ?_
    (repeat (first | (with_reducible refine ev_pos ?_ ?_; focus (first | omega | assumption | (simp; done) | (simp; omega))) | (with_reducible refine ev_neg ?_ ?_; focus (first | omega | assumption | (simp; done) | (simp; omega)))))
    refine Ev.bind (nat_Low_ev ha la) ?_
    (repeat (first | (with_reducible refine ev_pos ?_ ?_; focus (first | omega | assumption | (simp; done) | (simp; omega))) | (with_reducible refine ev_neg ?_ ?_; focus (first | omega | assumption | (simp; done) | (simp; omega)))))
    refine ev_eq (Ev.now _) ?_
    congr 2
    exact decide_eq_decide.2 (by rw [← lw_mod h0]; omega)
  · rw [if_neg h2]
    have e : wrap64 (131072 - ((bl (V a) : Nat) : Int)) = 131072 - ((bl (V a) : Nat) : Int) := by unfold wrap64; omega
    refine ev_neg h2 ?_
    refine Ev.bind (nat_Len_ev ha la) ?_
    (repeat (first | (with_reducible refine ev_pos ?_ ?_; focus (first | omega | assumption | (simp; done) | (simp; omega))) | (with_reducible refine ev_neg ?_ ?_; focus (first | omega | assumption | (simp; done) | (simp; omega)))))
    rw [e]
    clear e
    by_cases h3 : n > 131072 - ((bl (V a) : Nat) : Int)
    · rw [if_pos h3]; exact ev_pos h3 (Ev.now _)
    · rw [if_neg h3]
      obtain ⟨m, rfl⟩ := Int.eq_ofNat_of_zero_le (show 0 ≤ n by omega)
      refine ev_neg h3 ?_
      refine Ev.bind (nat_up_ev ha.dg (by omega) m (by omega)) ?_
      (repeat (first | (with_reducible refine ev_pos ?_ ?_; focus (first | omega | assumption | (simp; done) | (simp; omega))) | (with_reducible refine ev_neg ?_ ?_; focus (first | omega | assumption | (simp; done) | (simp; omega)))))
      refine ev_eq (Ev.now _) ?_
      rw [Int.toNat_natCast]
theorem len_bl {x k : Nat} (h : bl x ≤ 32 * k) : (D x).length ≤ k := by
  refine D_lt ?_
  have e : 4294967296 ^ k = 2 ^ (32 * k) := by rw [Nat.pow_mul]
  rw [e]
  exact Nat.lt_of_lt_of_le (lt_bl x) (Nat.pow_le_pow_right (by omega) h)
theorem bl_up_le (v m : Nat) : bl (v * 2 ^ m) ≤ bl v + m := by
  refine bl_le_of_lt ?_
  rw [Nat.pow_add]
  exact Nat.mul_lt_mul_of_pos_right (lt_bl v) (pw_pos m)
theorem bl_up {v : Nat} (h : v ≠ 0) (m : Nat) : bl (v * 2 ^ m) = bl v + m := by
  rw [bl_shift (n := v * 2 ^ m) (k := m) (Nat.le_mul_of_pos_left _ (by omega)), Nat.mul_div_cancel _ (pw_pos m), Nat.add_comm]
theorem bl_down (v m : Nat) : bl (v / 2 ^ m) = bl v - m := by
  rcases Nat.lt_or_ge v (2 ^ m) with h | h
  · rw [Nat.div_eq_of_lt h, bl_zero]
    have := bl_le_of_lt h
    omega
  · rw [bl_shift h]; omega
theorem shiftR_up {v m : Nat} (h : bl v + m ≤ 131072) : shiftR v (m : Int) = (D (v * 2 ^ m), false, 0) := by
  unfold shiftR
  by_cases hv : v = 0
  · rw [if_pos hv, hv, Nat.zero_mul, D_zero]
  · rw [if_neg hv, if_neg (by omega), if_neg (by omega), if_neg (by omega), Int.toNat_natCast]
theorem shiftR_down {v m : Nat} (h : bl v ≤ 131072) (hm : m ≤ 131072) : shiftR v (-(m : Int)) = (D (v / 2 ^ m), decide (v % 2 ^ m ≠ 0), 0) := by
  by_cases hv : v = 0
  · unfold shiftR
    rw [if_pos hv, hv, Nat.zero_div, Nat.zero_mod, D_zero]; rfl
  rcases Nat.eq_zero_or_pos m with h0 | h0
  · subst h0
    have e := shiftR_up (v := v) (m := 0) (by omega)
    rw [Nat.pow_zero, Nat.mul_one] at e
    rw [Nat.pow_zero, Nat.div_one, Nat.mod_one]
    exact e
  · unfold shiftR
    have e : (-(-(m : Int))).toNat = m := by omega
    rw [if_neg hv, if_neg (by omega), if_pos (by omega), e]
theorem sum_lt {q x Q X N : Nat} (hq : q < 4294967296 ^ Q) (hx : x < 4294967296 ^ X) (h1 : Q < N) (h2 : X < N) : q + x < 4294967296 ^ N := by
  obtain ⟨m, rfl⟩ := Nat.exists_eq_add_of_lt (show 0 < N by omega)
  have a : 4294967296 ^ Q ≤ 4294967296 ^ m := Nat.pow_le_pow_right (by omega) (by omega)
  have b : 4294967296 ^ X ≤ 4294967296 ^ m := Nat.pow_le_pow_right (by omega) (by omega)
  rw [Nat.zero_add, Nat.pow_succ]
  generalize 4294967296 ^ m = p at *
  omega
end Go.Proofs.YtclegbgmhimenaaDoor.Eng.K

/- Dyadic numbers: whole numbers times a power of two, in their one form; the reference's and the program's way to that form. -/
set_option linter.unusedVariables false
set_option linter.unusedSimpArgs false
namespace Go.Proofs.YtclegbgmhimenaaDoor.Eng.K
open Go.RowKit

/-- A size with a sign. -/
def sv (s : Bool) (n : Nat) : Int := if s = true then -(n : Int) else n
theorem sv_abs (s : Bool) (n : Nat) : (sv s n).natAbs = n := by unfold sv; split <;> simp
theorem sv_eq_zero {s : Bool} {n : Nat} : sv s n = 0 ↔ n = 0 := by unfold sv; split <;> omega
theorem sv_neg {s : Bool} {n : Nat} (h : n ≠ 0) : decide (sv s n < 0) = s := by
  unfold sv
  cases s
  · exact decide_eq_false (by simp)
  · exact decide_eq_true (by simp; omega)
theorem sv_zero (s : Bool) : sv s 0 = 0 := by unfold sv; split <;> rfl
/-- z times 2^e, in the one form: sign, digits (an odd number), exponent. -/
def mk (z e : Int) : Bool × List Int × Int := if z = 0 then (false, [], 0) else (decide (z < 0), D (z.natAbs / 2 ^ lw z.natAbs), e + (lw z.natAbs : Nat))
theorem mk_zero (e : Int) : mk 0 e = (false, [], 0) := rfl
theorem lw_up {n : Nat} (h : n ≠ 0) (k : Nat) : lw (n * 2 ^ k) = lw n + k := lw_eq (isLow_up (lw_is h))
theorem mk_up (z e : Int) (k : Nat) : mk (z * 2 ^ k) e = mk z (e + k) := by
  unfold mk
  by_cases h : z = 0
  · subst h; simp
  · have hp : (0 : Int) < 2 ^ k := Int.pow_pos (by omega)
    have h1 : z * 2 ^ k ≠ 0 := Int.mul_ne_zero h (by omega)
    have hn : z.natAbs ≠ 0 := by omega
    have h2 : (z * 2 ^ k).natAbs = z.natAbs * 2 ^ k := by rw [Int.natAbs_mul, Int.natAbs_pow]; rfl
    have h3 : decide (z * 2 ^ k < 0) = decide (z < 0) := decide_eq_decide.2 (by
      constructor
      · intro h4
        rcases (show z < 0 ∨ 0 ≤ z by omega) with h5 | h5
        · exact h5
        · have := Int.mul_nonneg h5 (Int.le_of_lt hp); omega
      · intro h4; exact Int.mul_neg_of_neg_of_pos h4 hp)
    rw [if_neg h, if_neg h1, h2, h3, lw_up hn]
    have h4 : z.natAbs * 2 ^ k / 2 ^ (lw z.natAbs + k) = z.natAbs / 2 ^ lw z.natAbs := by
      rw [Nat.pow_add]; exact Nat.mul_div_mul_right _ _ (pw_pos k)
    rw [h4]
    congr 2
    omega
/-- In its one form? -/
structure Dy (s : Bool) (l : List Int) (e : Int) : Prop where
  nm : Nm l
  none : l = [] → s = false ∧ e = 0
  odd : l ≠ [] → V l % 2 = 1
theorem lw_odd {n : Nat} (h : n % 2 = 1) : lw n = 0 := lw_eq ⟨n / 2, by rw [Nat.pow_zero, Nat.one_mul]; omega⟩
theorem mk_self {s : Bool} {l : List Int} {e : Int} (h : Dy s l e) : mk (sv s (V l)) e = (s, l, e) := by
  unfold mk
  by_cases c : l = []
  · obtain ⟨h1, h2⟩ := h.none c
    subst c; subst h1; subst h2
    rfl
  · have h1 := h.odd c
    have h0 : V l ≠ 0 := by omega
    rw [if_neg (fun h => h0 (sv_eq_zero.1 h)), sv_abs, sv_neg h0, lw_odd h1, Nat.pow_zero, Nat.div_one, h.nm]
    simp
theorem Dy_mk (z e : Int) : Dy (mk z e).1 (mk z e).2.1 (mk z e).2.2 := by
  unfold mk
  by_cases h : z = 0
  · rw [if_pos h]; exact ⟨Nm_nil, fun _ => ⟨rfl, rfl⟩, fun h => absurd rfl h⟩
  · rw [if_neg h]
    obtain ⟨m, hm⟩ := lw_is (n := z.natAbs) (by omega)
    have h1 : z.natAbs / 2 ^ lw z.natAbs = 2 * m + 1 := by
      have : z.natAbs / 2 ^ lw z.natAbs = 2 ^ lw z.natAbs * (2 * m + 1) / 2 ^ lw z.natAbs := by rw [← hm]
      rw [this, Nat.mul_div_cancel_left _ (pw_pos _)]
    have h2 : D (z.natAbs / 2 ^ lw z.natAbs) ≠ [] := by rw [h1, D_pos (by omega)]; simp
    exact ⟨Nm_D _, fun h => absurd h h2, fun _ => by show V (D _) % 2 = 1; rw [V_D, h1]; omega⟩
theorem mk_sv (s : Bool) {n : Nat} (h : n ≠ 0) (e : Int) : mk (sv s n) e = (s, D (n / 2 ^ lw n), e + (lw n : Nat)) := by
  unfold mk
  rw [if_neg (fun h2 => h (sv_eq_zero.1 h2)), sv_abs, sv_neg h]
theorem lw_lt {n : Nat} (h : n ≠ 0) : lw n < bl n := by
  have h1 := (lw_is h).le
  rcases Nat.lt_or_ge (lw n) (bl n) with h2 | h2
  · exact h2
  · have h3 := lt_bl n
    have h4 : 2 ^ bl n ≤ 2 ^ lw n := Nat.pow_le_pow_right (by omega) h2
    omega
theorem nil_len {l : List Int} : (l.length : Int) = 0 ↔ l = [] := by
  constructor
  · intro h; exact List.eq_nil_of_length_eq_zero (by omega)
  · intro h; rw [h]; rfl
theorem wexp {e : Int} {b : Nat} (h1 : -1000000000000000 ≤ e) (h2 : e ≤ 1000000000000000) (hb : b < 100000000000) : wrap64 (e + (b : Int)) = e + (b : Int) := by unfold wrap64; omega
theorem ref_Form_ev (s : Bool) {l : List Int} (hl : Nm l) (ll : l.length < 10000000) {e : Int} (h1 : -1000000000000000 ≤ e) (h2 : e ≤ 1000000000000000) : Ev (fun k => cutplaneref02_Form.f k s l e) (mk (sv s (V l)) e) := by
  unfold cutplaneref02_Form.f
  by_cases c : l = []
  · subst c
    (repeat (first | (with_reducible refine ev_pos ?_ ?_; focus (first | omega | assumption | (simp; done) | (simp; omega))) | (with_reducible refine ev_neg ?_ ?_; focus (first | omega | assumption | (simp; done) | (simp; omega)))))
    exact ev_eq (Ev.now _) (by rw [V_nil, sv_zero]; rfl)
  · have h0 : V l ≠ 0 := fun h => c ((V_eq_zero hl).1 h)
    have hb := bl_list hl.dg
    have hw := lw_lt h0
    refine ev_neg (fun h => c (nil_len.1 h)) ?_
    refine Ev.bind (ref_Low_ev hl.dg (by omega)) ?_
    (repeat (first | (with_reducible refine ev_pos ?_ ?_; focus (first | omega | assumption | (simp; done) | (simp; omega))) | (with_reducible refine ev_neg ?_ ?_; focus (first | omega | assumption | (simp; done) | (simp; omega)))))
    refine Ev.bind (ref_Down_is hl (by omega) (lw (V l)) (by omega)) ?_
    (repeat (first | (with_reducible refine ev_pos ?_ ?_; focus (first | omega | assumption | (simp; done) | (simp; omega))) | (with_reducible refine ev_neg ?_ ?_; focus (first | omega | assumption | (simp; done) | (simp; omega)))))
    refine ev_eq (Ev.now _) ?_
    rw [mk_sv s h0, wexp h1 h2 (by omega)]
/-- What Make answers: the one form, or that the exponent is too great. -/
def makeR (s : Bool) (n : Nat) (e : Int) : Bool × List Int × Int × Int :=
  if n = 0 then (false, [], 0, 0) else if e > 16777216 - (lw n : Nat) then (false, [], 0, 20) else if e < -16777216 - (lw n : Nat) then (false, [], 0, 20) else ((mk (sv s n) e).1, (mk (sv s n) e).2.1, (mk (sv s n) e).2.2, 0)
theorem dyad_Make_ev (s : Bool) {l : List Int} (hl : Nm l) (ll : l.length ≤ 4096) (e : Int) : Ev (fun k => dyad_Make.f k s l e) (makeR s (V l) e) := by
  unfold dyad_Make.f makeR
  refine ev_bind (nat_May_eq hl.dg (by omega)) ?_
  rw [may_iff.2 ⟨ll, hl⟩]
  (repeat (first | (with_reducible refine ev_pos ?_ ?_; focus (first | omega | assumption | (simp; done) | (simp; omega))) | (with_reducible refine ev_neg ?_ ?_; focus (first | omega | assumption | (simp; done) | (simp; omega)))))
  by_cases c : l = []
  · subst c
    (repeat (first | (with_reducible refine ev_pos ?_ ?_; focus (first | omega | assumption | (simp; done) | (simp; omega))) | (with_reducible refine ev_neg ?_ ?_; focus (first | omega | assumption | (simp; done) | (simp; omega)))))
    exact ev_eq (Ev.now _) (by rw [V_nil, if_pos rfl])
  · have h0 : V l ≠ 0 := fun h => c ((V_eq_zero hl).1 h)
    have hb := bl_list hl.dg
    have hw := lw_lt h0
    rw [if_neg h0]
    refine ev_neg (fun h => c (nil_len.1 h)) ?_
    refine Ev.bind (nat_Low_ev hl ll) ?_
    (repeat (first | (with_reducible refine ev_pos ?_ ?_; focus (first | omega | assumption | (simp; done) | (simp; omega))) | (with_reducible refine ev_neg ?_ ?_; focus (first | omega | assumption | (simp; done) | (simp; omega)))))
    have e1 : wrap64 (16777216 - ((lw (V l) : Nat) : Int)) = 16777216 - ((lw (V l) : Nat) : Int) := by unfold wrap64; omega
    have e2 : wrap64 (-16777216 - ((lw (V l) : Nat) : Int)) = -16777216 - ((lw (V l) : Nat) : Int) := by unfold wrap64; omega
    have e3 : wrap64 (-((lw (V l) : Nat) : Int)) = -((lw (V l) : Nat) : Int) := by unfold wrap64; omega
    rw [e1, e2, e3]
    clear e1 e2 e3
    by_cases h1 : e > 16777216 - ((lw (V l) : Nat) : Int)
    · rw [if_pos h1]; exact ev_pos h1 (Ev.now _)
    rw [if_neg h1]
    refine ev_neg h1 ?_
    by_cases h2 : e < -16777216 - ((lw (V l) : Nat) : Int)
    · rw [if_pos h2]; exact ev_pos h2 (Ev.now _)
    rw [if_neg h2]
    have hs := nat_Shift_ev hl ll (-((lw (V l) : Nat) : Int))
    rw [shiftR_down (by omega) (by omega)] at hs
    refine ev_neg h2 ?_
    refine Ev.bind hs ?_
    (repeat (first | (with_reducible refine ev_pos ?_ ?_; focus (first | omega | assumption | (simp; done) | (simp; omega))) | (with_reducible refine ev_neg ?_ ?_; focus (first | omega | assumption | (simp; done) | (simp; omega)))))
    refine ev_eq (Ev.now _) ?_
    rw [mk_sv s h0, wexp (by omega) (by omega) (by omega)]
end Go.Proofs.YtclegbgmhimenaaDoor.Eng.K

/- Dyadic numbers, the reference: signs, tops, sums, differences, products, which is above which. -/
set_option linter.unusedVariables false
set_option linter.unusedSimpArgs false
namespace Go.Proofs.YtclegbgmhimenaaDoor.Eng.K
open Go.RowKit

/-- z times 2^e, told in units of 2^m (m not above e). -/
def al (z e m : Int) : Int := z * 2 ^ (e - m).toNat
theorem mk_al {z e m : Int} (h : m ≤ e) : mk (al z e m) m = mk z e := by
  unfold al
  rw [mk_up]
  congr 1
  omega
theorem al_zero (e m : Int) : al 0 e m = 0 := by unfold al; rw [Int.zero_mul]
theorem al_al {z e m n : Int} (h1 : m ≤ e) (h2 : n ≤ m) : al (al z e m) m n = al z e n := by
  unfold al
  rw [Int.mul_assoc, ← Int.pow_add]
  congr 2
  omega
theorem al_add (x y e m : Int) : al (x + y) e m = al x e m + al y e m := by unfold al; rw [Int.add_mul]
theorem al_sv (s : Bool) (n : Nat) (e m : Int) : al (sv s n) e m = sv s (n * 2 ^ (e - m).toNat) := by
  unfold al sv
  split
  · rw [Int.neg_mul, Int.natCast_mul, Int.natCast_pow]; rfl
  · rw [Int.natCast_mul, Int.natCast_pow]; rfl
theorem sv_add (s : Bool) (x y : Nat) : sv s x + sv s y = sv s (x + y) := by unfold sv; split <;> omega
theorem sv_sub {s t : Bool} (h : s ≠ t) {x y : Nat} (hl : y ≤ x) : sv s x + sv t y = sv s (x - y) := by
  unfold sv
  cases s <;> cases t <;> simp at h ⊢ <;> omega
theorem sv_not (s : Bool) (n : Nat) : sv (!s) n = -sv s n := by unfold sv; cases s <;> simp
/-- A sum of two dyadic numbers. -/
def addD (za ea zb eb : Int) : Bool × List Int × Int := mk (al za ea (min ea eb) + al zb eb (min ea eb)) (min ea eb)
theorem addD_at {za ea zb eb m : Int} (h1 : m ≤ ea) (h2 : m ≤ eb) : mk (al za ea m + al zb eb m) m = addD za ea zb eb := by
  unfold addD
  have h3 : m ≤ min ea eb := by omega
  rw [← al_al (z := za) (e := ea) (m := min ea eb) (n := m) (by omega) h3, ← al_al (z := zb) (e := eb) (m := min ea eb) (n := m) (by omega) h3, ← al_add]
  exact mk_al h3
theorem addD_zero_left (ea zb eb : Int) : addD 0 ea zb eb = mk zb eb := by
  unfold addD; rw [al_zero, Int.zero_add]; exact mk_al (by omega)
theorem addD_zero_right (za ea eb : Int) : addD za ea 0 eb = mk za ea := by
  unfold addD; rw [al_zero, Int.add_zero]; exact mk_al (by omega)
theorem upl_len {l : List Int} (h : Dg l) {n : Nat} : (D (V l * 2 ^ n)).length ≤ l.length + n / 32 + 1 := by
  refine len_bl (Nat.le_trans (bl_up_le _ _) ?_)
  have := bl_list h
  omega
theorem wsubn {e m : Int} (h1 : -1000000000000000 ≤ e) (h2 : e ≤ 1000000000000000) (h3 : -1000000000000000 ≤ m) (h4 : m ≤ e) : wrap64 (e - m) = ((e - m).toNat : Int) := by unfold wrap64; omega
theorem radd_j0 {sa sb : Bool} {la lb : List Int} {ea eb m : Int} (na : Nm la) (nb : Nm lb) (ha : la.length ≤ 1000000) (hb : lb.length ≤ 1000000) (h1 : m ≤ ea) (h2 : m ≤ eb) (h3 : (ea - m).toNat ≤ 100000000) (h4 : (eb - m).toNat ≤ 100000000) (hm : -100000000000000 ≤ m) (hM : m ≤ 100000000000000) :
    Ev (fun k => cutplaneref02_Add.j2 k sa la ea sb lb eb false [] 0 m) (mk (al (sv sa (V la)) ea m + al (sv sb (V lb)) eb m) m) := by
  refine ev_step ?_
  simp only [cutplaneref02_Add.j2]
  rw [wsubn (e := ea) (by omega) (by omega) (by omega) h1, wsubn (e := eb) (by omega) (by omega) (by omega) h2]
  rw [al_sv, al_sv]
  generalize (ea - m).toNat = p at *
  generalize (eb - m).toNat = q at *
  have l1 := upl_len na.dg (n := p)
  have l2 := upl_len nb.dg (n := q)
  refine Ev.bind (ref_Up_ev na.dg (by omega) p (by omega)) ?_
  (repeat (first | (with_reducible refine ev_pos ?_ ?_; focus (first | omega | assumption | (simp; done) | (simp; omega))) | (with_reducible refine ev_neg ?_ ?_; focus (first | omega | assumption | (simp; done) | (simp; omega)))))
  refine Ev.bind (ref_Up_ev nb.dg (by omega) q (by omega)) ?_
  (repeat (first | (with_reducible refine ev_pos ?_ ?_; focus (first | omega | assumption | (simp; done) | (simp; omega))) | (with_reducible refine ev_neg ?_ ?_; focus (first | omega | assumption | (simp; done) | (simp; omega)))))
  generalize V la * 2 ^ p = x at *
  generalize V lb * 2 ^ q = y at *
  by_cases hs : sa = sb
  · subst hs
    have hadd := ref_Add_ev (Dg_D x) (Dg_D y) (by omega) (by omega)
    rw [V_D, V_D] at hadd
    have l3 : (D (x + y)).length ≤ la.length + lb.length + p / 32 + q / 32 + 3 := by
      refine D_lt ?_
      have h5 := lt_D_len x
      have h6 := lt_D_len y
      refine sum_lt (N := la.length + lb.length + p / 32 + q / 32 + 3) h5 h6 (by omega) (by omega)
    have hf := ref_Form_ev sa (Nm_D (x + y)) (by omega) (e := m) (by omega) (by omega)
    rw [V_D] at hf
    (repeat (first | (with_reducible refine ev_pos ?_ ?_; focus (first | omega | assumption | (simp; done) | (simp; omega))) | (with_reducible refine ev_neg ?_ ?_; focus (first | omega | assumption | (simp; done) | (simp; omega)))))
    refine Ev.bind hadd ?_
    (repeat (first | (with_reducible refine ev_pos ?_ ?_; focus (first | omega | assumption | (simp; done) | (simp; omega))) | (with_reducible refine ev_neg ?_ ?_; focus (first | omega | assumption | (simp; done) | (simp; omega)))))
    refine Ev.bind hf ?_
    (repeat (first | (with_reducible refine ev_pos ?_ ?_; focus (first | omega | assumption | (simp; done) | (simp; omega))) | (with_reducible refine ev_neg ?_ ?_; focus (first | omega | assumption | (simp; done) | (simp; omega)))))
    refine ev_eq (Ev.now _) ?_
    rw [sv_add]
  · refine ev_neg (by simpa using hs) ?_
    refine Ev.bind (ref_Cmp_ev (Nm_D x) (Nm_D y) (by omega)) ?_
    (repeat (first | (with_reducible refine ev_pos ?_ ?_; focus (first | omega | assumption | (simp; done) | (simp; omega))) | (with_reducible refine ev_neg ?_ ?_; focus (first | omega | assumption | (simp; done) | (simp; omega)))))
    rw [V_D, V_D]
    by_cases hc : y ≤ x
    · have hsub := ref_Sub_ev (Nm_D x) (Nm_D y) (by omega) (by rw [V_D, V_D]; exact hc)
      rw [V_D, V_D] at hsub
      have l3 : (D (x - y)).length ≤ (D x).length := D_len_mono (Nat.sub_le _ _)
      have hf := ref_Form_ev sa (Nm_D (x - y)) (by omega) (e := m) (by omega) (by omega)
      rw [V_D] at hf
      refine ev_pos (cmpN_ge.2 hc) ?_
      refine Ev.bind hsub ?_
      (repeat (first | (with_reducible refine ev_pos ?_ ?_; focus (first | omega | assumption | (simp; done) | (simp; omega))) | (with_reducible refine ev_neg ?_ ?_; focus (first | omega | assumption | (simp; done) | (simp; omega)))))
      refine Ev.bind hf ?_
      (repeat (first | (with_reducible refine ev_pos ?_ ?_; focus (first | omega | assumption | (simp; done) | (simp; omega))) | (with_reducible refine ev_neg ?_ ?_; focus (first | omega | assumption | (simp; done) | (simp; omega)))))
      refine ev_eq (Ev.now _) ?_
      rw [sv_sub hs hc]
    · have hsub := ref_Sub_ev (Nm_D y) (Nm_D x) (by omega) (by rw [V_D, V_D]; omega)
      rw [V_D, V_D] at hsub
      have l3 : (D (y - x)).length ≤ (D y).length := D_len_mono (Nat.sub_le _ _)
      have hf := ref_Form_ev sb (Nm_D (y - x)) (by omega) (e := m) (by omega) (by omega)
      rw [V_D] at hf
      refine ev_neg (fun h => hc (cmpN_ge.1 h)) ?_
      refine Ev.bind hsub ?_
      (repeat (first | (with_reducible refine ev_pos ?_ ?_; focus (first | omega | assumption | (simp; done) | (simp; omega))) | (with_reducible refine ev_neg ?_ ?_; focus (first | omega | assumption | (simp; done) | (simp; omega)))))
      refine Ev.bind hf ?_
      (repeat (first | (with_reducible refine ev_pos ?_ ?_; focus (first | omega | assumption | (simp; done) | (simp; omega))) | (with_reducible refine ev_neg ?_ ?_; focus (first | omega | assumption | (simp; done) | (simp; omega)))))
      refine ev_eq (Ev.now _) ?_
      rw [Int.add_comm, sv_sub (fun h => hs h.symm) (by omega)]
/-- Not far apart, not long, not far out. -/
structure Near (la : List Int) (ea : Int) (lb : List Int) (eb : Int) : Prop where
  a : la.length ≤ 1000000
  b : lb.length ≤ 1000000
  d : (ea - eb).natAbs ≤ 100000000
  e : -10000000000000 ≤ ea ∧ ea ≤ 10000000000000
theorem ref_Add2_ev {sa sb : Bool} {la lb : List Int} {ea eb : Int} (ha : Dy sa la ea) (hb : Dy sb lb eb) (h : Near la ea lb eb) : Ev (fun k => cutplaneref02_Add.f k sa la ea sb lb eb) (addD (sv sa (V la)) ea (sv sb (V lb)) eb) := by
  obtain ⟨h1, h2, h3, h4⟩ := h
  unfold cutplaneref02_Add.f
  by_cases c : la = []
  · subst c
    (repeat (first | (with_reducible refine ev_pos ?_ ?_; focus (first | omega | assumption | (simp; done) | (simp; omega))) | (with_reducible refine ev_neg ?_ ?_; focus (first | omega | assumption | (simp; done) | (simp; omega)))))
    refine ev_eq (Ev.now _) ?_
    rw [V_nil, sv_zero, addD_zero_left, mk_self hb]
  refine ev_neg (fun h => c (nil_len.1 h)) ?_
  by_cases c2 : lb = []
  · subst c2
    (repeat (first | (with_reducible refine ev_pos ?_ ?_; focus (first | omega | assumption | (simp; done) | (simp; omega))) | (with_reducible refine ev_neg ?_ ?_; focus (first | omega | assumption | (simp; done) | (simp; omega)))))
    refine ev_eq (Ev.now _) ?_
    rw [V_nil, sv_zero, addD_zero_right, mk_self ha]
  refine ev_neg (fun h => c2 (nil_len.1 h)) ?_
  by_cases c3 : eb < ea
  · refine ev_pos c3 ?_
    exact ev_eq (radd_j0 ha.nm hb.nm h1 h2 (by omega) (by omega) (by omega) (by omega) (by omega) (by omega)) (addD_at (by omega) (by omega))
  · refine ev_neg c3 ?_
    exact ev_eq (radd_j0 ha.nm hb.nm h1 h2 (by omega) (by omega) (by omega) (by omega) (by omega) (by omega)) (addD_at (by omega) (by omega))
theorem len_pos {l : List Int} (c : l ≠ []) : (l.length : Int) > 0 := by
  have := List.length_pos_iff.2 c
  omega
theorem ref_Neg2_eq {s : Bool} {l : List Int} {e : Int} (h : Dy s l e) : cutplaneref02_Neg.f s l e = some (mk (-(sv s (V l))) e) := by
  unfold cutplaneref02_Neg.f
  by_cases c : l = []
  · obtain ⟨h1, h2⟩ := h.none c
    subst c; subst h1; subst h2
    rfl
  · have hl := len_pos c
    have h1 := h.odd c
    have h0 : V l ≠ 0 := by omega
    rw [if_pos hl, ← sv_not, mk_sv _ h0, lw_odd h1, Nat.pow_zero, Nat.div_one, h.nm]
    simp
theorem mk_Near {z e : Int} : (mk z e).2.1 = D (z.natAbs / 2 ^ lw z.natAbs) := by
  unfold mk
  by_cases h : z = 0
  · subst h; rw [if_pos rfl]; simp [D_zero]
  · rw [if_neg h]
end Go.Proofs.YtclegbgmhimenaaDoor.Eng.K

/- Dyadic numbers, the reference: products, orders, floors, cuts, whole numbers. -/
set_option linter.unusedVariables false
set_option linter.unusedSimpArgs false
namespace Go.Proofs.YtclegbgmhimenaaDoor.Eng.K
open Go.RowKit

theorem sv_sign {s : Bool} {n : Nat} (h : n ≠ 0) : (sv s n).sign = if s = true then -1 else 1 := by
  unfold sv
  split
  · exact Int.sign_eq_neg_one_of_neg (by omega)
  · exact Int.sign_eq_one_of_pos (by omega)
theorem ref_Sign2_eq {s : Bool} {l : List Int} {e : Int} (h : Dy s l e) : cutplaneref02_Sign.f s l e = some (sv s (V l)).sign := by
  unfold cutplaneref02_Sign.f
  by_cases c : l = []
  · subst c
    rw [if_pos (nil_len.2 rfl), V_nil, sv_zero]; rfl
  · have h1 := h.odd c
    have h0 : V l ≠ 0 := by omega
    rw [if_neg (fun h => c (nil_len.1 h)), sv_sign h0]
    split <;> rfl
/-- The place above the highest bit. -/
def top (z e : Int) : Int := if z = 0 then 0 else e + (bl z.natAbs : Nat)
theorem ref_Top2_ev {s : Bool} {l : List Int} {e : Int} (h : Dy s l e) (hl : l.length ≤ 1000000) (h1 : -1000000000000000 ≤ e) (h2 : e ≤ 1000000000000000) : Ev (fun k => cutplaneref02_Top.f k s l e) (top (sv s (V l)) e) := by
  unfold cutplaneref02_Top.f top
  by_cases c : l = []
  · subst c
    (repeat (first | (with_reducible refine ev_pos ?_ ?_; focus (first | omega | assumption | (simp; done) | (simp; omega))) | (with_reducible refine ev_neg ?_ ?_; focus (first | omega | assumption | (simp; done) | (simp; omega)))))
    exact ev_eq (Ev.now _) (by rw [V_nil, sv_zero]; rfl)
  · have h3 := h.odd c
    have h0 : V l ≠ 0 := by omega
    have hb := bl_list h.nm.dg
    refine ev_neg (fun h => c (nil_len.1 h)) ?_
    refine Ev.bind (ref_Len_ev h.nm (by omega)) ?_
    (repeat (first | (with_reducible refine ev_pos ?_ ?_; focus (first | omega | assumption | (simp; done) | (simp; omega))) | (with_reducible refine ev_neg ?_ ?_; focus (first | omega | assumption | (simp; done) | (simp; omega)))))
    refine ev_eq (Ev.now _) ?_
    rw [if_neg (fun h => h0 (sv_eq_zero.1 h)), sv_abs, wexp h1 h2 (by omega)]
theorem ne_dec (s t : Bool) : decide (¬ s = t) = (s != t) := by cases s <;> cases t <;> rfl
theorem ref_Sub2_ev {sa sb : Bool} {la lb : List Int} {ea eb : Int} (ha : Dy sa la ea) (hb : Dy sb lb eb) (h : Near la ea lb eb) : Ev (fun k => cutplaneref02_Sub.f k sa la ea sb lb eb) (addD (sv sa (V la)) ea (-(sv sb (V lb))) eb) := by
  unfold cutplaneref02_Sub.f
  have hn := Dy_mk (-(sv sb (V lb))) eb
  have e1 : mk (-(sv sb (V lb))) eb = ((mk (-(sv sb (V lb))) eb).1, (mk (-(sv sb (V lb))) eb).2.1, (mk (-(sv sb (V lb))) eb).2.2) := rfl
  have hv : (mk (-(sv sb (V lb))) eb).2.1 = lb ∧ sv (mk (-(sv sb (V lb))) eb).1 (V lb) = -(sv sb (V lb)) ∧ (mk (-(sv sb (V lb))) eb).2.2 = eb := by
    by_cases c : lb = []
    · obtain ⟨h1, h2⟩ := hb.none c
      subst c; subst h1; subst h2
      exact ⟨rfl, by rw [V_nil, sv_zero, sv_zero]; rfl, rfl⟩
    · have h3 := hb.odd c
      have h0 : V lb ≠ 0 := by omega
      rw [← sv_not, mk_sv _ h0, lw_odd h3, Nat.pow_zero, Nat.div_one, hb.nm]
      exact ⟨rfl, rfl, by simp⟩
  refine ev_bind (ref_Neg2_eq hb) ?_
  (repeat (first | (with_reducible refine ev_pos ?_ ?_; focus (first | omega | assumption | (simp; done) | (simp; omega))) | (with_reducible refine ev_neg ?_ ?_; focus (first | omega | assumption | (simp; done) | (simp; omega)))))
  rw [hv.1, hv.2.2] at hn
  have ha2 := ref_Add2_ev ha hn h
  rw [hv.2.1] at ha2
  simp only [hv.1, hv.2.2]
  refine Ev.bind ha2 ?_
  (repeat (first | (with_reducible refine ev_pos ?_ ?_; focus (first | omega | assumption | (simp; done) | (simp; omega))) | (with_reducible refine ev_neg ?_ ?_; focus (first | omega | assumption | (simp; done) | (simp; omega)))))
  exact Ev.now _
theorem ref_Shift2_eq {s : Bool} {l : List Int} {e n : Int} (h : Dy s l e) (h1 : -100000000000000 ≤ e) (h2 : e ≤ 100000000000000) (h3 : -100000000000000 ≤ n) (h4 : n ≤ 100000000000000) : cutplaneref02_Shift.f s l e n = some (mk (sv s (V l)) (e + n)) := by
  unfold cutplaneref02_Shift.f
  have ew : wrap64 (e + n) = e + n := by unfold wrap64; omega
  by_cases c : l = []
  · obtain ⟨h1, h2⟩ := h.none c
    subst c; subst h1; subst h2
    rw [if_neg (by simp), V_nil, sv_zero]; rfl
  · have h5 := h.odd c
    have h0 : V l ≠ 0 := by omega
    rw [if_pos (len_pos c), mk_sv _ h0, lw_odd h5, Nat.pow_zero, Nat.div_one, h.nm, ew]
    simp
end Go.Proofs.YtclegbgmhimenaaDoor.Eng.K

/- Dyadic numbers, the reference: which is above which, floors, cuts, whole numbers. -/
set_option linter.unusedVariables false
set_option linter.unusedSimpArgs false
namespace Go.Proofs.YtclegbgmhimenaaDoor.Eng.K
open Go.RowKit

theorem mk_sign (z e : Int) : (sv (mk z e).1 (V (mk z e).2.1)).sign = z.sign := by
  unfold mk
  by_cases h : z = 0
  · subst h; rfl
  · rw [if_neg h]
    have hn : z.natAbs ≠ 0 := by omega
    have h1 : V (D (z.natAbs / 2 ^ lw z.natAbs)) ≠ 0 := by
      rw [V_D]
      have h2 := (lw_is hn).le
      have := Nat.div_pos h2 (pw_pos _)
      omega
    show (sv (decide (z < 0)) (V (D (z.natAbs / 2 ^ lw z.natAbs)))).sign = z.sign
    rw [sv_sign h1]
    by_cases h3 : z < 0
    · rw [decide_eq_true h3, if_pos rfl, Int.sign_eq_neg_one_of_neg h3]
    · rw [decide_eq_false h3, if_neg (by simp), Int.sign_eq_one_of_pos (by omega)]
theorem pow_pos_int (k : Nat) : (0 : Int) < 2 ^ k := Int.pow_pos (by omega)
theorem al_sign (z e m : Int) : (al z e m).sign = z.sign := by
  unfold al
  rw [Int.sign_mul, Int.sign_eq_one_of_pos (pow_pos_int _), Int.mul_one]
theorem al_abs (z e m : Int) : (al z e m).natAbs = z.natAbs * 2 ^ (e - m).toNat := by
  unfold al
  rw [Int.natAbs_mul, Int.natAbs_pow]; rfl
theorem al_bl {z e m : Int} (h : z ≠ 0) (hm : m ≤ e) : ((bl (al z e m).natAbs : Nat) : Int) + m = top z e := by
  rw [al_abs, bl_up (by omega)]
  unfold top
  rw [if_neg h]
  omega
theorem lt_of_bl {x y : Nat} (h : bl x < bl y) : x < y := by
  rcases Nat.lt_or_ge x y with h1 | h1
  · exact h1
  · have := bl_mono h1; omega
/-- Which of two dyadic numbers is above the other: the sign of their difference. -/
def cmpD (za ea zb eb : Int) : Int := (al za ea (min ea eb) - al zb eb (min ea eb)).sign
theorem cmp_nat {a b : Int} : (a - b).sign = if a < b then -1 else if b < a then 1 else 0 := by
  split
  · exact Int.sign_eq_neg_one_of_neg (by omega)
  · split
    · exact Int.sign_eq_one_of_pos (by omega)
    · have : a - b = 0 := by omega
      rw [this]; rfl
theorem sgn_cases (z : Int) : (z < 0 ∧ z.sign = -1) ∨ (z = 0 ∧ z.sign = 0) ∨ (0 < z ∧ z.sign = 1) := by
  rcases Int.lt_trichotomy z 0 with h | h | h
  · exact .inl ⟨h, Int.sign_eq_neg_one_of_neg h⟩
  · exact .inr (.inl ⟨h, by rw [h]; rfl⟩)
  · exact .inr (.inr ⟨h, Int.sign_eq_one_of_pos h⟩)
/-- Whole numbers of unlike signs, or of like signs and unlike lengths. -/
theorem cmp_signs {a b : Int} (h : a.sign ≠ b.sign) : (a - b).sign = if a.sign < b.sign then -1 else 1 := by
  rw [cmp_nat]
  rcases sgn_cases a with ⟨h1, e1⟩ | ⟨h1, e1⟩ | ⟨h1, e1⟩ <;> rcases sgn_cases b with ⟨h2, e2⟩ | ⟨h2, e2⟩ | ⟨h2, e2⟩ <;> rw [e1, e2] at h ⊢ <;> first | exact absurd rfl h | (simp <;> omega)
theorem cmp_bl {a b : Int} (h : a.sign = b.sign) (h0 : a.sign ≠ 0) (hl : bl a.natAbs ≠ bl b.natAbs) : (a - b).sign = if (decide (bl a.natAbs < bl b.natAbs) == decide (a.sign > 0)) = true then -1 else 1 := by
  rw [cmp_nat]
  have hlt : bl a.natAbs < bl b.natAbs ∨ bl b.natAbs < bl a.natAbs := by omega
  have hn : a.natAbs ≠ b.natAbs := fun e => hl (by rw [e])
  rcases hlt with h1 | h1
  · have h2 := lt_of_bl h1
    rw [decide_eq_true h1]
    rcases sgn_cases a with ⟨h3, e1⟩ | ⟨h3, e1⟩ | ⟨h3, e1⟩
    · rw [e1] at h ⊢
      have : b < 0 := by rcases sgn_cases b with ⟨h4, e2⟩ | ⟨h4, e2⟩ | ⟨h4, e2⟩ <;> omega
      rw [if_neg (by omega), if_pos (by omega)]; rfl
    · exact absurd e1 h0
    · rw [e1] at h ⊢
      have : 0 < b := by rcases sgn_cases b with ⟨h4, e2⟩ | ⟨h4, e2⟩ | ⟨h4, e2⟩ <;> omega
      rw [if_pos (by omega)]; rfl
  · have h2 := lt_of_bl h1
    rw [decide_eq_false (by omega : ¬ bl a.natAbs < bl b.natAbs)]
    rcases sgn_cases a with ⟨h3, e1⟩ | ⟨h3, e1⟩ | ⟨h3, e1⟩
    · rw [e1] at h ⊢
      have : b < 0 := by rcases sgn_cases b with ⟨h4, e2⟩ | ⟨h4, e2⟩ | ⟨h4, e2⟩ <;> omega
      rw [if_pos (by omega)]; rfl
    · exact absurd e1 h0
    · rw [e1] at h ⊢
      have : 0 < b := by rcases sgn_cases b with ⟨h4, e2⟩ | ⟨h4, e2⟩ | ⟨h4, e2⟩ <;> omega
      rw [if_neg (by omega), if_pos (by omega)]; rfl
theorem cmpD_def (za ea zb eb : Int) : cmpD za ea zb eb = (al za ea (min ea eb) - al zb eb (min ea eb)).sign := rfl
theorem sign_ne {z : Int} (h : z.sign ≠ 0) : z ≠ 0 := fun e => h (by rw [e]; rfl)
theorem ref_Cmp2_ev {sa sb : Bool} {la lb : List Int} {ea eb : Int} (ha : Dy sa la ea) (hb : Dy sb lb eb) (h : Near la ea lb eb) : Ev (fun k => cutplaneref02_Cmp.f k sa la ea sb lb eb) (cmpD (sv sa (V la)) ea (sv sb (V lb)) eb) := by
  have hs := ref_Sub2_ev ha hb h
  obtain ⟨h1, h2, h3, h4⟩ := h
  have ta := ref_Top2_ev ha h1 (by omega) (by omega)
  have tb := ref_Top2_ev hb h2 (by omega) (by omega)
  unfold cutplaneref02_Cmp.f
  refine ev_bind (ref_Sign2_eq ha) ?_
  (repeat (first | (with_reducible refine ev_pos ?_ ?_; focus (first | omega | assumption | (simp; done) | (simp; omega))) | (with_reducible refine ev_neg ?_ ?_; focus (first | omega | assumption | (simp; done) | (simp; omega)))))
  refine ev_bind (ref_Sign2_eq hb) ?_
  (repeat (first | (with_reducible refine ev_pos ?_ ?_; focus (first | omega | assumption | (simp; done) | (simp; omega))) | (with_reducible refine ev_neg ?_ ?_; focus (first | omega | assumption | (simp; done) | (simp; omega)))))
  rw [cmpD_def]
  generalize hza : sv sa (V la) = za at *
  generalize hzb : sv sb (V lb) = zb at *
  have hm1 : min ea eb ≤ ea := by omega
  have hm2 : min ea eb ≤ eb := by omega
  by_cases c : za.sign = zb.sign
  · refine ev_neg (fun h => h c) ?_
    by_cases c0 : za.sign = 0
    · refine ev_pos c0 ?_
      refine ev_eq (Ev.now _) ?_
      have e1 : za = 0 := by rcases sgn_cases za with ⟨_, e⟩ | ⟨e, _⟩ | ⟨_, e⟩ <;> omega
      have e2 : zb = 0 := by rcases sgn_cases zb with ⟨_, e⟩ | ⟨e, _⟩ | ⟨_, e⟩ <;> omega
      rw [e1, e2, al_zero, al_zero]; rfl
    · refine ev_neg c0 ?_
      refine Ev.bind ta ?_
      (repeat (first | (with_reducible refine ev_pos ?_ ?_; focus (first | omega | assumption | (simp; done) | (simp; omega))) | (with_reducible refine ev_neg ?_ ?_; focus (first | omega | assumption | (simp; done) | (simp; omega)))))
      refine Ev.bind tb ?_
      (repeat (first | (with_reducible refine ev_pos ?_ ?_; focus (first | omega | assumption | (simp; done) | (simp; omega))) | (with_reducible refine ev_neg ?_ ?_; focus (first | omega | assumption | (simp; done) | (simp; omega)))))
      have ba := al_bl (sign_ne c0) hm1
      have bb := al_bl (z := zb) (sign_ne (by rw [← c]; exact c0)) hm2
      by_cases ct : top za ea = top zb eb
      · refine ev_neg (fun h => h ct) ?_
        refine Ev.bind hs ?_
        (repeat (first | (with_reducible refine ev_pos ?_ ?_; focus (first | omega | assumption | (simp; done) | (simp; omega))) | (with_reducible refine ev_neg ?_ ?_; focus (first | omega | assumption | (simp; done) | (simp; omega)))))
        have hd := Dy_mk (al za ea (min ea eb) + al (-zb) eb (min ea eb)) (min ea eb)
        have hg : addD za ea (-zb) eb = mk (al za ea (min ea eb) + al (-zb) eb (min ea eb)) (min ea eb) := rfl
        rw [hg]
        refine ev_bind (ref_Sign2_eq hd) ?_
        (repeat (first | (with_reducible refine ev_pos ?_ ?_; focus (first | omega | assumption | (simp; done) | (simp; omega))) | (with_reducible refine ev_neg ?_ ?_; focus (first | omega | assumption | (simp; done) | (simp; omega)))))
        refine ev_eq (Ev.now _) ?_
        rw [mk_sign]
        congr 1
        unfold al
        rw [Int.neg_mul]; rfl
      · refine ev_pos ct ?_
        refine Ev.bind ta ?_
        (repeat (first | (with_reducible refine ev_pos ?_ ?_; focus (first | omega | assumption | (simp; done) | (simp; omega))) | (with_reducible refine ev_neg ?_ ?_; focus (first | omega | assumption | (simp; done) | (simp; omega)))))
        refine Ev.bind tb ?_
        (repeat (first | (with_reducible refine ev_pos ?_ ?_; focus (first | omega | assumption | (simp; done) | (simp; omega))) | (with_reducible refine ev_neg ?_ ?_; focus (first | omega | assumption | (simp; done) | (simp; omega)))))
        have hne : bl (al za ea (min ea eb)).natAbs ≠ bl (al zb eb (min ea eb)).natAbs := fun e => ct (by rw [← ba, ← bb, e])
        have hc := cmp_bl (a := al za ea (min ea eb)) (b := al zb eb (min ea eb)) (by rw [al_sign, al_sign]; exact c) (by rw [al_sign]; exact c0) hne
        rw [al_sign] at hc
        have hd : decide (top za ea < top zb eb) = decide (bl (al za ea (min ea eb)).natAbs < bl (al zb eb (min ea eb)).natAbs) := decide_eq_decide.2 (by omega)
        rw [hc, hd]
        generalize decide (bl (al za ea (min ea eb)).natAbs < bl (al zb eb (min ea eb)).natAbs) = p
        generalize decide (za.sign > 0) = q
        by_cases cq : p = q
        · exact ev_pos cq (ev_eq (Ev.now _) (by rw [if_pos (beq_iff_eq.2 cq)]))
        · exact ev_neg cq (ev_eq (Ev.now _) (by rw [if_neg (fun h => cq (beq_iff_eq.1 h))]))
  · refine ev_pos c ?_
    have hc := cmp_signs (a := al za ea (min ea eb)) (b := al zb eb (min ea eb)) (by rw [al_sign, al_sign]; exact c)
    rw [al_sign, al_sign] at hc
    rw [hc]
    by_cases c1 : za.sign < zb.sign
    · refine ev_pos c1 ?_
      exact ev_eq (Ev.now _) (if_pos c1).symm
    · refine ev_neg c1 ?_
      exact ev_eq (Ev.now _) (if_neg c1).symm
end Go.Proofs.YtclegbgmhimenaaDoor.Eng.K

/- Dyadic numbers, the reference: floors, cuts, whole numbers. -/
set_option linter.unusedVariables false
set_option linter.unusedSimpArgs false
namespace Go.Proofs.YtclegbgmhimenaaDoor.Eng.K
open Go.RowKit

theorem ref_Cut2_ev {s : Bool} {l : List Int} {e : Int} (h : Dy s l e) (hl : l.length ≤ 1000000) (h1 : -100000000000000 ≤ e) (h2 : e ≤ 100000000000000) (b : Nat) (hb : b ≤ 100000000) : Ev (fun k => cutplaneref02_Cut.f k s l e b) ((mk (sv s (V l / 2 ^ (bl (V l) - b))) (e + ((bl (V l) - b : Nat) : Int))).1, (mk (sv s (V l / 2 ^ (bl (V l) - b))) (e + ((bl (V l) - b : Nat) : Int))).2.1, (mk (sv s (V l / 2 ^ (bl (V l) - b))) (e + ((bl (V l) - b : Nat) : Int))).2.2, decide (V l % 2 ^ (bl (V l) - b) ≠ 0)) := by
  unfold cutplaneref02_Cut.f
  have hbl := bl_list h.nm.dg
  refine Ev.bind (ref_Len_ev h.nm (by omega)) ?_
  (repeat (first | (with_reducible refine ev_pos ?_ ?_; focus (first | omega | assumption | (simp; done) | (simp; omega))) | (with_reducible refine ev_neg ?_ ?_; focus (first | omega | assumption | (simp; done) | (simp; omega)))))
  by_cases c : bl (V l) ≤ b
  · have ew : wrap64 (((bl (V l) : Nat) : Int) - (b : Int)) ≤ 0 := by unfold wrap64; omega
    refine ev_pos ew ?_
    refine ev_eq (Ev.now _) ?_
    have e0 : bl (V l) - b = 0 := by omega
    rw [e0, Nat.pow_zero, Nat.div_one, Nat.mod_one, show e + ((0 : Nat) : Int) = e by omega, mk_self h]
    rfl
  · have ew : wrap64 (((bl (V l) : Nat) : Int) - (b : Int)) = ((bl (V l) - b : Nat) : Int) := by unfold wrap64; omega
    rw [ew]
    clear ew
    have hn : bl (V l) - b < 1000000000 := by omega
    (repeat (first | (with_reducible refine ev_pos ?_ ?_; focus (first | omega | assumption | (simp; done) | (simp; omega))) | (with_reducible refine ev_neg ?_ ?_; focus (first | omega | assumption | (simp; done) | (simp; omega)))))
    generalize bl (V l) - b = n at *
    have hd : (D (V l / 2 ^ n)).length ≤ l.length := D_lt (Nat.lt_of_le_of_lt (Nat.div_le_self _ _) (V_lt h.nm.dg))
    have f0 := ref_Form_ev s (Nm_D (V l / 2 ^ n)) (by omega) (e := e + (n : Int)) (by omega) (by omega)
    rw [V_D] at f0
    rw [wexp (by omega) (by omega) (by omega)]
    refine Ev.bind (ref_Down_is h.nm (by omega) n hn) ?_
    (repeat (first | (with_reducible refine ev_pos ?_ ?_; focus (first | omega | assumption | (simp; done) | (simp; omega))) | (with_reducible refine ev_neg ?_ ?_; focus (first | omega | assumption | (simp; done) | (simp; omega)))))
    refine Ev.bind f0 ?_
    (repeat (first | (with_reducible refine ev_pos ?_ ?_; focus (first | omega | assumption | (simp; done) | (simp; omega))) | (with_reducible refine ev_neg ?_ ?_; focus (first | omega | assumption | (simp; done) | (simp; omega)))))
    exact Ev.now _
end Go.Proofs.YtclegbgmhimenaaDoor.Eng.K

/- Dyadic numbers, the program: what may be, whole numbers, signs, tops. -/
set_option linter.unusedVariables false
set_option linter.unusedSimpArgs false
namespace Go.Proofs.YtclegbgmhimenaaDoor.Eng.K
open Go.RowKit

theorem and_one32 (X : Nat) (hX : X < 4294967296) : Go.bits .and .u32 (X : Int) 1 = ((X % 2 : Nat) : Int) := by
  have h1 : (BitVec.ofInt 32 (X : Int)).toNat = X := by
    rw [BitVec.ofInt_natCast, BitVec.toNat_ofNat]; exact Nat.mod_eq_of_lt (by omega)
  show IntKind.u32.wrap ((BitVec.ofInt 32 (X : Int) &&& BitVec.ofInt 32 1).toNat : Int) = _
  have h2 : (BitVec.ofInt 32 (1 : Int)).toNat = 1 := by decide
  have h3 : ∀ n : Int, IntKind.u32.wrap n = n % 4294967296 := fun n => by simp [IntKind.wrap, IntKind.signed, IntKind.bits]
  rw [BitVec.toNat_and, h1, h2, h3, Nat.and_one_is_mod]
  omega
theorem low_digit {l : List Int} (h : Dg l) : Go.bits .and .u32 (rd l 0) 1 = ((V l % 2 : Nat) : Int) := by
  have h1 := h.getD 0
  have h2 := V_digit h 0
  rw [Nat.pow_zero, Nat.div_one] at h2
  have h3 : rd l 0 = l.getD 0 0 := rdn l 0
  rw [h3]
  obtain ⟨x, hx⟩ := Int.eq_ofNat_of_zero_le h1.1
  rw [hx] at h1 h2 ⊢
  rw [and_one32 x (by omega)]
  rw [Int.toNat_natCast] at h2
  omega
/-- A number that may be, in its one form. -/
structure My (s : Bool) (l : List Int) (e : Int) : Prop where
  dy : Dy s l e
  len : l.length ≤ 4096
  lo : -16777216 ≤ e
  hi : e ≤ 16777216
theorem dyad_May_true {s : Bool} {l : List Int} {e : Int} (h : My s l e) : dyad_May.f s l e = some true := by
  obtain ⟨hd, hl, h1, h2⟩ := h
  unfold dyad_May.f
  rw [nat_May_eq hd.nm.dg (by omega), Option.bind_some, may_iff.2 ⟨hl, hd.nm⟩, if_neg (by simp)]
  by_cases c : l = []
  · obtain ⟨h3, h4⟩ := hd.none c
    subst c; subst h3; subst h4
    rfl
  · have ho := hd.odd c
    rw [if_neg (fun h => c (nil_len.1 h)), if_pos (len_pos c), low_digit hd.nm.dg, if_pos (by omega)]
    unfold dyad_inside.f
    rw [if_pos h1, decide_eq_true h2]; rfl
theorem dyad_Sign_ev {s : Bool} {l : List Int} {e : Int} (h : My s l e) : Ev (fun k => dyad_Sign.f k s l e) (sv s (V l)).sign := by
  unfold dyad_Sign.f
  refine ev_bind (dyad_May_true h) ?_
  (repeat (first | (with_reducible refine ev_pos ?_ ?_; focus (first | omega | assumption | (simp; done) | (simp; omega))) | (with_reducible refine ev_neg ?_ ?_; focus (first | omega | assumption | (simp; done) | (simp; omega)))))
  refine ev_step ?_
  simp only [dyad_Sign.j0]
  by_cases c : l = []
  · subst c
    (repeat (first | (with_reducible refine ev_pos ?_ ?_; focus (first | omega | assumption | (simp; done) | (simp; omega))) | (with_reducible refine ev_neg ?_ ?_; focus (first | omega | assumption | (simp; done) | (simp; omega)))))
    exact ev_eq (Ev.now _) (by rw [V_nil, sv_zero]; rfl)
  · have h1 := h.dy.odd c
    have h0 : V l ≠ 0 := by omega
    refine ev_neg (by simpa using fun e => c e) ?_
    rw [sv_sign h0]
    by_cases hs : s = true
    · refine ev_pos hs ?_
      exact ev_eq (Ev.now _) (if_pos hs).symm
    · refine ev_neg hs ?_
      exact ev_eq (Ev.now _) (if_neg hs).symm
theorem makeR_ok {s : Bool} {n : Nat} {e : Int} (h1 : -16777216 ≤ e) (h2 : e + (bl n : Nat) ≤ 16777216) : makeR s n e = ((mk (sv s n) e).1, (mk (sv s n) e).2.1, (mk (sv s n) e).2.2, 0) := by
  unfold makeR
  by_cases h0 : n = 0
  · rw [if_pos h0, h0, sv_zero]; rfl
  · have := lw_lt h0
    rw [if_neg h0, if_neg (by omega), if_neg (by omega)]
theorem My_mk {z e : Int} (h1 : -16777216 ≤ e) (h2 : e + (bl z.natAbs : Nat) ≤ 16777216) (h3 : bl z.natAbs ≤ 131072) : My (mk z e).1 (mk z e).2.1 (mk z e).2.2 := by
  refine ⟨Dy_mk z e, ?_, ?_, ?_⟩
  · rw [mk_Near]
    refine len_bl ?_
    rw [bl_down]; omega
  · unfold mk
    by_cases h0 : z = 0
    · subst h0; rw [if_pos rfl]; decide
    · rw [if_neg h0]; show -16777216 ≤ e + ((lw z.natAbs : Nat) : Int); omega
  · unfold mk
    by_cases h0 : z = 0
    · subst h0; rw [if_pos rfl]; decide
    · have := lw_lt (n := z.natAbs) (by omega)
      rw [if_neg h0]; show e + ((lw z.natAbs : Nat) : Int) ≤ 16777216; omega
end Go.Proofs.YtclegbgmhimenaaDoor.Eng.K

/- Dyadic numbers, the program: sums, differences, products of numbers that are not too long. -/
set_option linter.unusedVariables false
set_option linter.unusedSimpArgs false
namespace Go.Proofs.YtclegbgmhimenaaDoor.Eng.K
open Go.RowKit

/-- A dyadic number with the answer's error (none). -/
def ok3 (d : Bool × List Int × Int) : Bool × List Int × Int × Int := (d.1, d.2.1, d.2.2, 0)
theorem makeR_ok3 {s : Bool} {n : Nat} {e : Int} (h1 : -16777216 ≤ e) (h2 : e + (bl n : Nat) ≤ 16777216) : makeR s n e = ok3 (mk (sv s n) e) := makeR_ok h1 h2
end Go.Proofs.YtclegbgmhimenaaDoor.Eng.K

/- Dyadic numbers, the program: differences, products, shifts, floors of numbers that are not too long. -/
set_option linter.unusedVariables false
set_option linter.unusedSimpArgs false
namespace Go.Proofs.YtclegbgmhimenaaDoor.Eng.K
open Go.RowKit

theorem Dy_neg {s : Bool} {l : List Int} {e : Int} (h : Dy s l e) : (mk (-(sv s (V l))) e).2.1 = l ∧ sv (mk (-(sv s (V l))) e).1 (V l) = -(sv s (V l)) ∧ (mk (-(sv s (V l))) e).2.2 = e := by
  by_cases c : l = []
  · obtain ⟨h1, h2⟩ := h.none c
    subst c; subst h1; subst h2
    exact ⟨rfl, by rw [V_nil, sv_zero, sv_zero]; rfl, rfl⟩
  · have h3 := h.odd c
    have h0 : V l ≠ 0 := by omega
    rw [← sv_not, mk_sv _ h0, lw_odd h3, Nat.pow_zero, Nat.div_one, h.nm]
    exact ⟨rfl, rfl, by simp⟩
end Go.Proofs.YtclegbgmhimenaaDoor.Eng.K

/- Dyadic numbers, the program: which is above which. -/
set_option linter.unusedVariables false
set_option linter.unusedSimpArgs false
namespace Go.Proofs.YtclegbgmhimenaaDoor.Eng.K
open Go.RowKit

theorem cmpD_at {za ea zb eb m : Int} (h1 : m ≤ ea) (h2 : m ≤ eb) : (al za ea m - al zb eb m).sign = cmpD za ea zb eb := by
  unfold cmpD
  have h3 : m ≤ min ea eb := by omega
  rw [← al_al (z := za) (e := ea) (m := min ea eb) (n := m) (by omega) h3, ← al_al (z := zb) (e := eb) (m := min ea eb) (n := m) (by omega) h3]
  generalize al za ea (min ea eb) = x
  generalize al zb eb (min ea eb) = y
  have e : al x (min ea eb) m - al y (min ea eb) m = al (x - y) (min ea eb) m := by unfold al; rw [Int.sub_mul]
  rw [e, al_sign]
theorem al_nat (n : Nat) (e m : Int) : al (n : Int) e m = ((n * 2 ^ (e - m).toNat : Nat) : Int) := by
  unfold al
  rw [Int.natCast_mul, Int.natCast_pow]; rfl
end Go.Proofs.YtclegbgmhimenaaDoor.Eng.K

/- Words of both formats: their shapes, and their bits as numbers. -/
set_option linter.unusedVariables false
set_option linter.unusedSimpArgs false
namespace Go.Proofs.YtclegbgmhimenaaDoor.Eng.K
open Go.RowKit

theorem bv64 (n : Nat) (h : n < 18446744073709551616) : (BitVec.ofInt 64 (n : Int)).toNat = n := by
  rw [BitVec.ofInt_natCast, BitVec.toNat_ofNat]; exact Nat.mod_eq_of_lt (by omega)
theorem and64 (a b : Nat) (ha : a < 18446744073709551616) (hb : b < 18446744073709551616) : Go.bits .and .u64 (a : Int) (b : Int) = ((a &&& b : Nat) : Int) := by
  show IntKind.u64.wrap ((BitVec.ofInt 64 (a : Int) &&& BitVec.ofInt 64 (b : Int)).toNat : Int) = _
  have hx : a &&& b < 2 ^ 64 := Nat.and_lt_two_pow _ (by omega)
  rw [BitVec.toNat_and, bv64 a ha, bv64 b hb, u64m]
  omega
theorem or64 (a b : Nat) (ha : a < 18446744073709551616) (hb : b < 18446744073709551616) : Go.bits .or .u64 (a : Int) (b : Int) = ((a ||| b : Nat) : Int) := by
  show IntKind.u64.wrap ((BitVec.ofInt 64 (a : Int) ||| BitVec.ofInt 64 (b : Int)).toNat : Int) = _
  have hx : a ||| b < 2 ^ 64 := Nat.or_lt_two_pow (by omega) (by omega)
  rw [BitVec.toNat_or, bv64 a ha, bv64 b hb, u64m]
  omega
theorem andNot64 (a b : Nat) (ha : a < 18446744073709551616) (hb : b < 18446744073709551616) : Go.bits .andNot .u64 (a : Int) (b : Int) = ((a &&& (18446744073709551616 - 1 - b) : Nat) : Int) := by
  show IntKind.u64.wrap ((BitVec.ofInt 64 (a : Int) &&& ~~~(BitVec.ofInt 64 (b : Int))).toNat : Int) = _
  have hx : a &&& (18446744073709551616 - 1 - b) < 2 ^ 64 := Nat.and_lt_two_pow _ (by omega)
  rw [BitVec.toNat_and, BitVec.toNat_not, bv64 a ha, bv64 b hb, u64m]
  have e : 2 ^ 64 - 1 - b = 18446744073709551616 - 1 - b := by omega
  rw [e]
  omega
/-- The low bits. -/
theorem and_low (a k : Nat) (ha : a < 18446744073709551616) (hk : k ≤ 63) : Go.bits .and .u64 (a : Int) ((2 ^ k - 1 : Nat) : Int) = ((a % 2 ^ k : Nat) : Int) := by
  have h1 : 2 ^ k ≤ 2 ^ 63 := Nat.pow_le_pow_right (by omega) hk
  rw [and64 a _ ha (by omega), Nat.and_two_pow_sub_one_eq_mod]
/-- All but the highest bit. -/
theorem andNot_top (w k : Nat) (hk : k ≤ 63) (hw : w < 2 ^ (k + 1)) : Go.bits .andNot .u64 (w : Int) ((2 ^ k : Nat) : Int) = ((w % 2 ^ k : Nat) : Int) := by
  have h1 : 2 ^ k ≤ 2 ^ 63 := Nat.pow_le_pow_right (by omega) hk
  have h2 : 2 ^ (k + 1) ≤ 2 ^ 64 := Nat.pow_le_pow_right (by omega) (by omega)
  rw [andNot64 w _ (by omega) (by omega)]
  congr 1
  apply Nat.eq_of_testBit_eq
  intro i
  have e : 18446744073709551616 - 1 - 2 ^ k = 2 ^ 64 - (2 ^ k + 1) := by omega
  rw [Nat.testBit_and, Nat.testBit_mod_two_pow, e, Nat.testBit_two_pow_sub_succ (by omega), Nat.testBit_two_pow]
  rcases Nat.lt_trichotomy i k with h | h | h
  · have h3 : i < 64 := by omega
    have h4 : ¬ k = i := by omega
    simp [h, h3, h4]
  · subst h; simp
  · have h3 : w.testBit i = false := Nat.testBit_lt_two_pow (Nat.lt_of_lt_of_le hw (Nat.pow_le_pow_right (by omega) (by omega)))
    have h4 : ¬ i < k := by omega
    simp [h3, h4]
theorem and_top (w k : Nat) (hk : k ≤ 63) (hw : w < 2 ^ (k + 1)) : Go.bits .and .u64 (w : Int) ((2 ^ k : Nat) : Int) = ((w / 2 ^ k * 2 ^ k : Nat) : Int) := by
  have h1 : 2 ^ k ≤ 2 ^ 63 := Nat.pow_le_pow_right (by omega) hk
  have h2 : 2 ^ (k + 1) ≤ 2 ^ 64 := Nat.pow_le_pow_right (by omega) (by omega)
  rw [and64 w _ (by omega) (by omega)]
  congr 1
  apply Nat.eq_of_testBit_eq
  intro i
  rw [Nat.testBit_and, Nat.testBit_two_pow, Nat.testBit_mul_two_pow, Nat.testBit_div_two_pow]
  rcases Nat.lt_trichotomy i k with h | h | h
  · have h3 : ¬ k = i := by omega
    have h4 : ¬ k ≤ i := by omega
    simp [h3, h4]
  · subst h; simp
  · have h3 : w.testBit i = false := Nat.testBit_lt_two_pow (Nat.lt_of_lt_of_le hw (Nat.pow_le_pow_right (by omega) (by omega)))
    have h4 : ¬ k = i := by omega
    have h5 : i - k + k = i := by omega
    simp [h3, h4, h5]
/-- Bits that don't meet. -/
theorem or_sum (a b k : Nat) (hb : b < 2 ^ k) (h : a * 2 ^ k + b < 18446744073709551616) : Go.bits .or .u64 ((a * 2 ^ k : Nat) : Int) (b : Int) = ((a * 2 ^ k + b : Nat) : Int) := by
  rw [or64 _ _ (by omega) (by omega)]
  congr 1
  rw [Nat.mul_comm]
  exact (Nat.two_pow_add_eq_or_of_lt hb a).symm
theorem or_comm64 (a b : Nat) (ha : a < 18446744073709551616) (hb : b < 18446744073709551616) : Go.bits .or .u64 (a : Int) (b : Int) = Go.bits .or .u64 (b : Int) (a : Int) := by
  rw [or64 a b ha hb, or64 b a hb ha, Nat.or_comm]
end Go.Proofs.YtclegbgmhimenaaDoor.Eng.K

/- Words of both formats, the program: open, class, fields. -/
set_option linter.unusedVariables false
set_option linter.unusedSimpArgs false
namespace Go.Proofs.YtclegbgmhimenaaDoor.Eng.K
open Go.RowKit

/-- A format; its fraction's bits, its greatest exponent field, its sign's place. -/
def isF (f : Int) : Prop := f = 1 ∨ f = 2
def fb (f : Int) : Nat := if f = 1 then 23 else 52
def mo (f : Int) : Nat := if f = 1 then 255 else 2047
def sk (f : Int) : Nat := if f = 1 then 31 else 63
def sg (f : Int) : Nat := if f = 1 then 2147483648 else 9223372036854775808
theorem shapeOf_eq {f : Int} (h : isF f) : word_shapeOf.f f = some ((fb f : Int), (mo f : Int), (sg f : Int), true) := by
  rcases h with rfl | rfl <;> rfl
theorem word_open_nil {f : Int} (h : isF f) : Ev (fun k => word_open.f k f []) ((fb f : Int), (mo f : Int), (sg f : Int), 0) := by
  unfold word_open.f
  refine ev_bind (shapeOf_eq h) ?_
  (repeat (first | (with_reducible refine ev_pos ?_ ?_; focus (first | omega | assumption | (simp; done) | (simp; omega))) | (with_reducible refine ev_neg ?_ ?_; focus (first | omega | assumption | (simp; done) | (simp; omega)))))
  refine ev_step ?_
  simp only [word_open.l0]
  (repeat (first | (with_reducible refine ev_pos ?_ ?_; focus (first | omega | assumption | (simp; done) | (simp; omega))) | (with_reducible refine ev_neg ?_ ?_; focus (first | omega | assumption | (simp; done) | (simp; omega)))))
  exact Ev.now _
theorem most_word {f : Int} (h : isF f) : Go.bits .or .u64 (sg f : Int) (IntKind.u64.wrap ((sg f : Int) - 1)) = ((2 * sg f - 1 : Nat) : Int) := by
  rcases h with rfl | rfl
  · have e : IntKind.u64.wrap (((sg 1 : Nat) : Int) - 1) = ((2147483647 : Nat) : Int) := by rw [u64m]; rfl
    rw [e, or64 _ _ (by decide) (by decide)]; rfl
  · have e : IntKind.u64.wrap (((sg 2 : Nat) : Int) - 1) = ((9223372036854775807 : Nat) : Int) := by rw [u64m]; rfl
    rw [e, or64 _ _ (by decide) (by decide)]; rfl
theorem sg_pos {f : Int} (h : isF f) : 0 < sg f ∧ 2 * sg f ≤ 18446744073709551616 := by rcases h with rfl | rfl <;> decide
theorem sg_pow {f : Int} (h : isF f) : sg f = 2 ^ sk f := by rcases h with rfl | rfl <;> decide
theorem sk_le {f : Int} (h : isF f) : sk f ≤ 63 := by rcases h with rfl | rfl <;> decide
/-- The error of a word that is none of the format's. -/
def goodE (f : Int) (w : Nat) : Int := if w < 2 * sg f then 0 else 6
theorem word_open_one {f : Int} (h : isF f) (w : Nat) : Ev (fun k => word_open.f k f [(w : Int)]) ((fb f : Int), (mo f : Int), (sg f : Int), goodE f w) := by
  have hp := sg_pos h
  unfold word_open.f goodE
  have e1 : wrap64 (0 + 1) = 1 := by rw [w64n (by omega) (by omega)]; rfl
  have el : (([(w : Int)] : List Int).length : Int) = 1 := rfl
  have er : rd [(w : Int)] 0 = (w : Int) := rfl
  refine ev_bind (shapeOf_eq h) ?_
  (repeat (first | (with_reducible refine ev_pos ?_ ?_; focus (first | omega | assumption | (simp; done) | (simp; omega))) | (with_reducible refine ev_neg ?_ ?_; focus (first | omega | assumption | (simp; done) | (simp; omega)))))
  refine ev_step ?_
  simp only [word_open.l0, el, e1, er, most_word h]
  (repeat (first | (with_reducible refine ev_pos ?_ ?_; focus (first | omega | assumption | (simp; done) | (simp; omega))) | (with_reducible refine ev_neg ?_ ?_; focus (first | omega | assumption | (simp; done) | (simp; omega)))))
  by_cases c : w < 2 * sg f
  · rw [if_pos c]
    (repeat (first | (with_reducible refine ev_pos ?_ ?_; focus (first | omega | assumption | (simp; done) | (simp; omega))) | (with_reducible refine ev_neg ?_ ?_; focus (first | omega | assumption | (simp; done) | (simp; omega)))))
    refine ev_step ?_
    simp only [word_open.l0, el]
    (repeat (first | (with_reducible refine ev_pos ?_ ?_; focus (first | omega | assumption | (simp; done) | (simp; omega))) | (with_reducible refine ev_neg ?_ ?_; focus (first | omega | assumption | (simp; done) | (simp; omega)))))
    exact Ev.now _
  · rw [if_neg c]
    (repeat (first | (with_reducible refine ev_pos ?_ ?_; focus (first | omega | assumption | (simp; done) | (simp; omega))) | (with_reducible refine ev_neg ?_ ?_; focus (first | omega | assumption | (simp; done) | (simp; omega)))))
    exact Ev.now _
theorem shl_mo {f : Int} (h : isF f) : shl .u64 ((mo f : Nat) : Int) ((fb f : Nat) : Int) = ((mo f * 2 ^ fb f : Nat) : Int) := by
  rcases h with rfl | rfl <;> decide
theorem inf_eq {f : Int} (h : isF f) : word_shape_inf.f (fb f : Int) (mo f : Int) (sg f : Int) = some ((mo f * 2 ^ fb f : Nat) : Int) := by
  unfold word_shape_inf.f
  have hm : mo f < 10000 := by rcases h with rfl | rfl <;> decide
  rw [if_pos (by omega), u64 (by omega) (by omega), shl_mo h]
/-- What a word stands for: 1 nought, 2 subnormal, 3 normal, 4 infinite, 5 none. -/
def cls (f : Int) (w : Nat) : Int :=
  if w % sg f = 0 then 1 else if w % sg f < 2 ^ fb f then 2 else if w % sg f < mo f * 2 ^ fb f then 3 else if w % sg f = mo f * 2 ^ fb f then 4 else 5
theorem size_eq {f : Int} (h : isF f) {w : Nat} (hw : w < 2 * sg f) : Go.bits .andNot .u64 (w : Int) (sg f : Int) = ((w % sg f : Nat) : Int) := by
  rw [sg_pow h] at hw ⊢
  exact andNot_top w (sk f) (sk_le h) (by rw [Nat.pow_succ, Nat.mul_comm]; exact hw)
theorem one_shl {f : Int} (h : isF f) : shl .u64 1 ((fb f : Nat) : Int) = ((2 ^ fb f : Nat) : Int) := by rcases h with rfl | rfl <;> decide
theorem class_eq {f : Int} (h : isF f) {w : Nat} (hw : w < 2 * sg f) : word_shape_class.f (fb f : Int) (mo f : Int) (sg f : Int) (w : Int) = some (cls f w) := by
  unfold word_shape_class.f cls
  rw [size_eq h hw, one_shl h]
  generalize w % sg f = z
  by_cases c1 : z = 0
  · rw [if_pos (by omega), if_pos c1]
  rw [if_neg (by omega), if_neg c1, if_pos (by omega)]
  by_cases c2 : z < 2 ^ fb f
  · rw [if_pos (by omega), if_pos c2]
  rw [if_neg (by omega), if_neg c2, inf_eq h, Option.bind_some]
  by_cases c3 : z < mo f * 2 ^ fb f
  · rw [if_pos (by omega), if_pos c3]
  rw [if_neg (by omega), if_neg c3, Option.bind_some]
  by_cases c4 : z = mo f * 2 ^ fb f
  · rw [if_pos (by omega), if_pos c4]
  · rw [if_neg (by omega), if_neg c4]
theorem word_Class_ev {f : Int} (h : isF f) {w : Nat} (hw : w < 2 * sg f) : Ev (fun k => word_Class.f k f (w : Int)) (cls f w, 0) := by
  have ho := word_open_one h w
  unfold goodE at ho
  rw [if_pos hw] at ho
  unfold word_Class.f
  refine Ev.bind ho ?_
  (repeat (first | (with_reducible refine ev_pos ?_ ?_; focus (first | omega | assumption | (simp; done) | (simp; omega))) | (with_reducible refine ev_neg ?_ ?_; focus (first | omega | assumption | (simp; done) | (simp; omega)))))
  refine ev_bind (class_eq h hw) ?_
  (repeat (first | (with_reducible refine ev_pos ?_ ?_; focus (first | omega | assumption | (simp; done) | (simp; omega))) | (with_reducible refine ev_neg ?_ ?_; focus (first | omega | assumption | (simp; done) | (simp; omega)))))
  exact Ev.now _
end Go.Proofs.YtclegbgmhimenaaDoor.Eng.K

/- Words of both formats, the program: fields, values. -/
set_option linter.unusedVariables false
set_option linter.unusedSimpArgs false
namespace Go.Proofs.YtclegbgmhimenaaDoor.Eng.K
open Go.RowKit

/-- A word's sign, exponent field, fraction. -/
def wneg (f : Int) (w : Nat) : Bool := decide (sg f ≤ w)
def wexpo (f : Int) (w : Nat) : Nat := w % sg f / 2 ^ fb f
def wfrac (f : Int) (w : Nat) : Nat := w % sg f % 2 ^ fb f
theorem fb_le {f : Int} (h : isF f) : fb f ≤ 52 := by rcases h with rfl | rfl <;> decide
theorem sg_big {f : Int} (h : isF f) : sg f = 2 ^ fb f * (mo f + 1) := by rcases h with rfl | rfl <;> decide
theorem pfb {f : Int} (h : isF f) : 2 ^ fb f ≤ 4503599627370496 := by rcases h with rfl | rfl <;> decide
theorem mo_le {f : Int} (h : isF f) : mo f ≤ 2047 := by rcases h with rfl | rfl <;> decide
theorem split_eq {f : Int} (h : isF f) {w : Nat} (hw : w < 2 * sg f) : word_shape_split.f (fb f : Int) (mo f : Int) (sg f : Int) (w : Int) = some (wneg f w, (wexpo f w : Int), (wfrac f w : Int)) := by
  have hp := sg_pos h
  have hk := sk_le h
  have h52 := fb_le h
  have hpw := pfb h
  have hpp := pw_pos (fb f)
  unfold word_shape_split.f
  rw [size_eq h hw, one_shl h]
  have h1 : Go.bits .and .u64 (w : Int) (sg f : Int) = ((w / sg f * sg f : Nat) : Int) := by
    rw [sg_pow h] at hw ⊢
    exact and_top w (sk f) hk (by rw [Nat.pow_succ, Nat.mul_comm]; exact hw)
  have hz : w % sg f < sg f := Nat.mod_lt _ hp.1
  have h2 : IntKind.u64.wrap (((2 ^ fb f : Nat) : Int) - 1) = ((2 ^ fb f - 1 : Nat) : Int) := by rw [u64m]; omega
  have h3 := and_low (w % sg f) (fb f) (by omega) (by omega)
  have h4 : shr .u64 ((w % sg f : Nat) : Int) ((fb f : Nat) : Int) = ((w % sg f / 2 ^ fb f : Nat) : Int) := shr_n _ _ (by show fb f ≤ 64; omega)
  have h5 : wrap64 ((w % sg f / 2 ^ fb f : Nat) : Int) = ((w % sg f / 2 ^ fb f : Nat) : Int) := by
    have hq : w % sg f / 2 ^ fb f < mo f + 1 := Nat.div_lt_of_lt_mul (by rw [← sg_big h]; exact hz)
    have hm := mo_le h
    clear h1 h2 h3 h4
    generalize w % sg f / 2 ^ fb f = q at hq ⊢
    exact w64n (by omega) (by omega)
  rw [h1, h2, h3, h4, h5]
  have h6 : (decide (¬ (((w / sg f * sg f : Nat) : Int) = 0))) = wneg f w := by
    unfold wneg
    by_cases c : sg f ≤ w
    · have : w / sg f = 1 := Nat.div_eq_of_lt_le (by omega) (by omega)
      rw [this, decide_eq_true c]
      exact decide_eq_true (by omega)
    · rw [Nat.div_eq_of_lt (by omega), decide_eq_false c]
      simp
  rw [h6, if_pos (by omega)]
  rfl
theorem word_Split_ev {f : Int} (h : isF f) {w : Nat} (hw : w < 2 * sg f) : Ev (fun k => word_Split.f k f (w : Int)) (wneg f w, (wexpo f w : Int), (wfrac f w : Int), 0) := by
  have ho := word_open_one h w
  unfold goodE at ho
  rw [if_pos hw] at ho
  unfold word_Split.f
  refine Ev.bind ho ?_
  (repeat (first | (with_reducible refine ev_pos ?_ ?_; focus (first | omega | assumption | (simp; done) | (simp; omega))) | (with_reducible refine ev_neg ?_ ?_; focus (first | omega | assumption | (simp; done) | (simp; omega)))))
  refine ev_bind (split_eq h hw) ?_
  (repeat (first | (with_reducible refine ev_pos ?_ ?_; focus (first | omega | assumption | (simp; done) | (simp; omega))) | (with_reducible refine ev_neg ?_ ?_; focus (first | omega | assumption | (simp; done) | (simp; omega)))))
  exact Ev.now _
/-- The least exponent. -/
def lo (f : Int) : Int := if f = 1 then -149 else -1074
theorem low_eq {f : Int} (h : isF f) : word_shape_low.f (fb f : Int) (mo f : Int) (sg f : Int) = some (lo f) := by
  unfold word_shape_low.f
  have e : wrap64 (Int.tdiv ((mo f : Nat) : Int) 2) = ((mo f / 2 : Nat) : Int) := by
    have := mo_le h
    exact w64n (by show (0 : Int) ≤ ((mo f / 2 : Nat) : Int); omega) (by show ((mo f / 2 : Nat) : Int) < _; omega)
  have hm := mo_le h
  have hb := fb_le h
  rw [e]
  have e2 : wrap64 (1 - ((mo f / 2 : Nat) : Int)) = 1 - ((mo f / 2 : Nat) : Int) := by unfold wrap64; omega
  rw [e2]
  have e3 : wrap64 (1 - ((mo f / 2 : Nat) : Int) - ((fb f : Nat) : Int)) = 1 - ((mo f / 2 : Nat) : Int) - ((fb f : Nat) : Int) := by unfold wrap64; omega
  rw [e3]
  rcases h with rfl | rfl <;> rfl
/-- A finite word's size as a whole number, and its exponent. -/
def wmag (f : Int) (w : Nat) : Nat := if wexpo f w = 0 then wfrac f w else 2 ^ fb f + wfrac f w
def wex (f : Int) (w : Nat) : Int := (if wexpo f w = 0 then 0 else (wexpo f w : Int) - 1) + lo f
theorem finite_ev {f : Int} (h : isF f) {w : Nat} (hw : w < 2 * sg f) : Ev (fun k => word_finite.f k f (w : Int)) ((fb f : Int), (mo f : Int), (sg f : Int), if cls f w ≥ 4 then 7 else 0) := by
  have ho := word_open_one h w
  unfold goodE at ho
  rw [if_pos hw] at ho
  unfold word_finite.f
  refine Ev.bind ho ?_
  (repeat (first | (with_reducible refine ev_pos ?_ ?_; focus (first | omega | assumption | (simp; done) | (simp; omega))) | (with_reducible refine ev_neg ?_ ?_; focus (first | omega | assumption | (simp; done) | (simp; omega)))))
  refine ev_bind (class_eq h hw) ?_
  (repeat (first | (with_reducible refine ev_pos ?_ ?_; focus (first | omega | assumption | (simp; done) | (simp; omega))) | (with_reducible refine ev_neg ?_ ?_; focus (first | omega | assumption | (simp; done) | (simp; omega)))))
  by_cases c : cls f w ≥ 4
  · refine ev_pos c ?_
    exact ev_eq (Ev.now _) (by rw [if_pos c])
  · refine ev_neg c ?_
    exact ev_eq (Ev.now _) (by rw [if_neg c])
theorem mx1 (n : Nat) : (wrap64 ((mx (n : Int) 1) - 1) = if n = 0 then 0 else (n : Int) - 1) ∨ 4611686018427387904 ≤ n := by
  by_cases hb : n < 4611686018427387904
  · left
    have e : mx (n : Int) 1 = ((max n 1 : Nat) : Int) := mx_n n 1
    rw [e, w64n (by omega) (by omega)]
    split <;> omega
  · right; omega
theorem word_Value_ev {f : Int} (h : isF f) {w : Nat} (hw : w < 2 * sg f) (hc : cls f w < 4) : Ev (fun k => word_Value.f k f (w : Int)) (ok3 (mk (sv (wneg f w) (wmag f w)) (wex f w))) := by
  have hf := finite_ev h hw
  rw [if_neg (by omega)] at hf
  have hp := sg_pos h
  have hz : w % sg f < sg f := Nat.mod_lt _ hp.1
  have he : wexpo f w < mo f + 1 := Nat.div_lt_of_lt_mul (by rw [← sg_big h]; exact hz)
  have hm := mo_le h
  have hfr : wfrac f w < 2 ^ fb f := Nat.mod_lt _ (pw_pos _)
  have hpw := pfb h
  have h52 := fb_le h
  have hlo : -1074 ≤ lo f ∧ lo f ≤ -149 := by rcases h with rfl | rfl <;> decide
  have hmx := (mx1 (wexpo f w)).resolve_right (by omega)
  have hbl : ∀ m : Nat, m < 18446744073709551616 → bl m ≤ 64 := fun m hm => bl_le_of_lt (by omega)
  unfold word_Value.f
  refine Ev.bind hf ?_
  (repeat (first | (with_reducible refine ev_pos ?_ ?_; focus (first | omega | assumption | (simp; done) | (simp; omega))) | (with_reducible refine ev_neg ?_ ?_; focus (first | omega | assumption | (simp; done) | (simp; omega)))))
  refine ev_bind (split_eq h hw) ?_
  (repeat (first | (with_reducible refine ev_pos ?_ ?_; focus (first | omega | assumption | (simp; done) | (simp; omega))) | (with_reducible refine ev_neg ?_ ?_; focus (first | omega | assumption | (simp; done) | (simp; omega)))))
  have hex : wrap64 (wrap64 ((mx (wexpo f w : Int) 1) - 1) + lo f) = wex f w := by
    rw [hmx]
    unfold wex wrap64
    split <;> omega
  have hwx : -1074 ≤ wex f w ∧ wex f w ≤ 3000 := by unfold wex; split <;> omega
  by_cases c : wexpo f w = 0
  · have hm0 : wmag f w = wfrac f w := by unfold wmag; rw [if_pos c]
    have o1 := nat_Of_ev (n := (wfrac f w : Int)) (by omega) (by omega)
    rw [Int.toNat_natCast] at o1
    have hb := hbl (wfrac f w) (by omega)
    have m1 := dyad_Make_ev (wneg f w) (Nm_D (wfrac f w)) (len_bl (by omega)) (wex f w)
    rw [V_D, makeR_ok3 (by omega) (by omega)] at m1
    dsimp only
    (repeat (first | (with_reducible refine ev_pos ?_ ?_; focus (first | omega | assumption | (simp; done) | (simp; omega))) | (with_reducible refine ev_neg ?_ ?_; focus (first | omega | assumption | (simp; done) | (simp; omega)))))
    refine ev_step ?_; simp only [word_Value.j1]
    refine Ev.bind (o1) ?_; try dsimp only
    refine ev_bind (low_eq h) ?_; try dsimp only
    rw [hex, hm0]
    refine Ev.bind m1 ?_
    (repeat (first | (with_reducible refine ev_pos ?_ ?_; focus (first | omega | assumption | (simp; done) | (simp; omega))) | (with_reducible refine ev_neg ?_ ?_; focus (first | omega | assumption | (simp; done) | (simp; omega)))))
    exact Ev.now _
  · have hm0 : wmag f w = 1 * 2 ^ fb f + wfrac f w := by unfold wmag; rw [if_neg c, Nat.one_mul]
    have eo : Go.bits .or .u64 (wfrac f w : Int) (shl .u64 1 ((fb f : Nat) : Int)) = ((wmag f w : Nat) : Int) := by
      rw [one_shl h, or_comm64 _ _ (by omega) (by omega), hm0]
      have := or_sum 1 (wfrac f w) (fb f) hfr (by omega)
      rw [Nat.one_mul] at this
      rw [this, Nat.one_mul]
    have hlt : wmag f w < 18446744073709551616 := by omega
    have o1 := nat_Of_ev (n := (wmag f w : Int)) (by omega) (by omega)
    rw [Int.toNat_natCast] at o1
    have hb := hbl (wmag f w) hlt
    have m1 := dyad_Make_ev (wneg f w) (Nm_D (wmag f w)) (len_bl (by omega)) (wex f w)
    rw [V_D, makeR_ok3 (by omega) (by omega)] at m1
    dsimp only
    (repeat (first | (with_reducible refine ev_pos ?_ ?_; focus (first | omega | assumption | (simp; done) | (simp; omega))) | (with_reducible refine ev_neg ?_ ?_; focus (first | omega | assumption | (simp; done) | (simp; omega)))))
    refine ev_step ?_; simp only [word_Value.j1]
    rw [eo]
    refine Ev.bind (o1) ?_; try dsimp only
    refine ev_bind (low_eq h) ?_; try dsimp only
    rw [hex]
    refine Ev.bind m1 ?_
    (repeat (first | (with_reducible refine ev_pos ?_ ?_; focus (first | omega | assumption | (simp; done) | (simp; omega))) | (with_reducible refine ev_neg ?_ ?_; focus (first | omega | assumption | (simp; done) | (simp; omega)))))
    exact Ev.now _
end Go.Proofs.YtclegbgmhimenaaDoor.Eng.K

/- The program's words of numbers, and its named words. -/
set_option linter.unusedVariables false
set_option linter.unusedSimpArgs false
namespace Go.Proofs.YtclegbgmhimenaaDoor.Eng.K
open Go.RowKit

/-- Bits of a finite number; finite numbers are below two to that. -/
def pr (f : Int) : Nat := if f = 1 then 24 else 53
def wd (f : Int) : Int := if f = 1 then 128 else 1024
def sgn (f : Int) (s : Bool) : Nat := if s = true then sg f else 0
/-- Where a word's unit lies; the word of a size, without its sign. -/
def unit (f : Int) (n : Nat) (e : Int) : Int := max (e + (bl n : Nat) - (pr f : Nat)) (lo f)
def enc (f : Int) (n : Nat) (e : Int) : Nat := (unit f n e - lo f).toNat * 2 ^ fb f + n * 2 ^ (e - unit f n e).toNat
theorem pr_eq {f : Int} (h : isF f) : pr f = fb f + 1 := by rcases h with rfl | rfl <;> rfl
theorem wd_eq {f : Int} (h : isF f) : wd f = ((mo f / 2 : Nat) : Int) + 1 := by rcases h with rfl | rfl <;> rfl
theorem lo_b {f : Int} (h : isF f) : -1074 ≤ lo f ∧ lo f ≤ -149 := by rcases h with rfl | rfl <;> decide
theorem wd_b {f : Int} (h : isF f) : 128 ≤ wd f ∧ wd f ≤ 1024 := by rcases h with rfl | rfl <;> decide
theorem fits_room {f : Int} (h : isF f) : wd f - (pr f : Nat) - lo f = ((mo f - 2 : Nat) : Int) := by rcases h with rfl | rfl <;> rfl
theorem mo_ge {f : Int} (h : isF f) : 255 ≤ mo f := by rcases h with rfl | rfl <;> decide
theorem unit_ge (f : Int) (n : Nat) (e : Int) : lo f ≤ unit f n e := by unfold unit; omega
theorem part_lt {f : Int} {n : Nat} {e : Int} (hn : bl n ≤ pr f) (he : lo f ≤ e) : n * 2 ^ (e - unit f n e).toNat < 2 ^ pr f := by
  have h1 := lt_bl n
  have h2 : n * 2 ^ (e - unit f n e).toNat < 2 ^ bl n * 2 ^ (e - unit f n e).toNat := Nat.mul_lt_mul_of_pos_right h1 (pw_pos _)
  rw [← Nat.pow_add] at h2
  exact Nat.lt_of_lt_of_le h2 (Nat.pow_le_pow_right (by omega) (by unfold unit; omega))
theorem unit_le {f : Int} {n : Nat} {e : Int} (hn : bl n ≤ pr f) (he : lo f ≤ e) : unit f n e ≤ e := by unfold unit; omega
theorem enc_lt {f : Int} (h : isF f) {n : Nat} {e : Int} (hn : bl n ≤ pr f) (he : lo f ≤ e) (hw : e + (bl n : Nat) ≤ wd f) : enc f n e < mo f * 2 ^ fb f ∧ (unit f n e - lo f).toNat ≤ mo f - 2 := by
  have h1 := part_lt hn he
  have h2 := fits_room h
  have h3 := mo_ge h
  have h4 : (unit f n e - lo f).toNat ≤ mo f - 2 := by unfold unit; omega
  refine ⟨?_, h4⟩
  unfold enc
  rw [pr_eq h, Nat.pow_succ] at h1
  have h5 : (unit f n e - lo f).toNat * 2 ^ fb f ≤ (mo f - 2) * 2 ^ fb f := Nat.mul_le_mul_right _ h4
  have h6 : (mo f - 2) * 2 ^ fb f + 2 ^ fb f * 2 = mo f * 2 ^ fb f := by
    rw [Nat.mul_comm (2 ^ fb f) 2, ← Nat.add_mul]; congr 1; omega
  omega
theorem inf_lt {f : Int} (h : isF f) : mo f * 2 ^ fb f + 2 ^ fb f = sg f := by rcases h with rfl | rfl <;> decide
theorem shl_u64 {X s : Nat} (h : X * 2 ^ s < 18446744073709551616) (hs : s ≤ 64) : shl .u64 (X : Int) (s : Int) = ((X * 2 ^ s : Nat) : Int) := by
  unfold shl
  have e : min (s : Int).toNat IntKind.u64.bits = s := by
    have : IntKind.u64.bits = 64 := rfl
    omega
  rw [e, pow_cast, ← Int.natCast_mul]
  exact u64 (by omega) (by omega)
theorem or_sign {f : Int} (h : isF f) {x : Nat} (hx : x < sg f) : Go.bits .or .u64 (x : Int) (sg f : Int) = ((x + sg f : Nat) : Int) := by
  have hp := sg_pos h
  rw [or_comm64 _ _ (by omega) (by omega)]
  have h1 := or_sum 1 x (sk f) (by rw [← sg_pow h]; exact hx) (by rw [← sg_pow h]; omega)
  rw [Nat.one_mul, ← sg_pow h] at h1
  rw [h1, Nat.add_comm]
theorem or_zero64 {x : Nat} (h : x < 18446744073709551616) : Go.bits .or .u64 0 (x : Int) = (x : Int) := by
  have := or64 0 x (by omega) h
  rw [Nat.zero_or] at this
  exact this
theorem join_eq {f : Int} (h : isF f) {x : Nat} (hx : x < sg f) (s : Bool) : word_shape_join.f (fb f : Int) (mo f : Int) (sg f : Int) s 0 (x : Int) = some ((x + sgn f s : Nat) : Int) := by
  have hp := sg_pos h
  have e0 : shl .u64 (IntKind.u64.wrap 0) ((fb f : Nat) : Int) = 0 := by rcases h with rfl | rfl <;> decide
  unfold word_shape_join.f sgn
  rw [if_pos (by omega), e0, or_zero64 (by omega)]
  cases s
  · rfl
  · rw [if_pos rfl, if_pos rfl, or_sign h hx]
theorem wsubx {a b : Int} (h1 : -100000000000 ≤ a) (h2 : a ≤ 100000000000) (h3 : -100000000000 ≤ b) (h4 : b ≤ 100000000000) : wrap64 (a - b) = a - b := by unfold wrap64; omega
theorem waddx {a b : Int} (h1 : -100000000000 ≤ a) (h2 : a ≤ 100000000000) (h3 : -100000000000 ≤ b) (h4 : b ≤ 100000000000) : wrap64 (a + b) = a + b := by unfold wrap64; omega
theorem numB_small {l : List Int} (h : Nm l) (hb : V l < 18446744073709551616) : numB l = true := by
  have h1 : l.length ≤ 2 := by
    have : (D (V l)).length ≤ 2 := D_len_lt (by omega)
    rwa [h] at this
  unfold numB
  rw [may_iff.2 ⟨by omega, h⟩, decide_eq_true h1]
  rfl
theorem two_fb {f : Int} (h : isF f) : 2 ^ pr f ≤ 9007199254740992 := by rcases h with rfl | rfl <;> decide
theorem unit_wrap {f : Int} (h : isF f) {n : Nat} {e : Int} (he : lo f ≤ e) (hw : e + (bl n : Nat) ≤ wd f) (hn : bl n ≤ 100) : mx (wrap64 (wrap64 (e + ((bl n : Nat) : Int) - ((fb f : Nat) : Int)) - 1)) (lo f) = unit f n e := by
  have hl := lo_b h
  have hwb := wd_b h
  have hpr := pr_eq h
  have hfb := fb_le h
  have e1 : wrap64 (e + ((bl n : Nat) : Int) - ((fb f : Nat) : Int)) = e + ((bl n : Nat) : Int) - ((fb f : Nat) : Int) := by unfold wrap64; omega
  have e2 : wrap64 (e + ((bl n : Nat) : Int) - ((fb f : Nat) : Int) - 1) = e + ((bl n : Nat) : Int) - ((fb f : Nat) : Int) - 1 := by unfold wrap64; omega
  rw [e1, e2, mx_eq]
  unfold unit
  omega
theorem part_sm {n k : Nat} (h : n ≠ 0) (hb : n * 2 ^ k < 18446744073709551616) : k ≤ 64 := by
  rcases Nat.lt_or_ge 64 k with c | c
  · have h1 : 2 ^ 64 ≤ 2 ^ k := Nat.pow_le_pow_right (by omega) (by omega)
    have h2 : 2 ^ k ≤ n * 2 ^ k := Nat.le_mul_of_pos_left _ (by omega)
    have h3 : (2 : Nat) ^ 64 = 18446744073709551616 := by decide
    omega
  · exact c
theorem word_Of_ev {f : Int} (h : isF f) {s : Bool} {l : List Int} {e : Int} (hd : My s l e) (h0 : l ≠ []) (hn : bl (V l) ≤ pr f) (he : lo f ≤ e) (hw : e + (bl (V l) : Nat) ≤ wd f) :
    Ev (fun k => word_Of.f k f s l e) (((enc f (V l) e + sgn f s : Nat) : Int), 0) := by
  have hV : V l ≠ 0 := fun c => h0 ((V_eq_zero hd.dy.nm).1 c)
  have hl := lo_b h
  have hwb := wd_b h
  have hpr := pr_eq h
  have hfb := fb_le h
  have h2 := two_fb h
  have hbig : V l < 2 ^ pr f := Nat.lt_of_lt_of_le (lt_bl _) (Nat.pow_le_pow_right (by omega) hn)
  have hnum := nat_Num_ev hd.dy.nm.dg (by have := hd.len; omega)
  rw [numB_small hd.dy.nm (by omega), if_pos rfl] at hnum
  obtain ⟨e1, e2⟩ := enc_lt h hn he hw
  have hil := inf_lt h
  have hsp := sg_pos h
  have hplt := part_lt hn he
  have hu := unit_le hn he
  have hul := unit_ge f (V l) e
  have hpf := pw_pos (fb f)
  have hub : unit f (V l) e ≤ 1100 := by omega
  have hA : (unit f (V l) e - lo f).toNat * 2 ^ fb f < 18446744073709551616 := by unfold enc at e1; omega
  have hB : V l * 2 ^ (e - unit f (V l) e).toNat < 18446744073709551616 := by omega
  have hsm : (e - unit f (V l) e).toNat ≤ 64 := by
    have := part_sm (n := V l) (k := (e - unit f (V l) e).toNat) (by omega) hB
    exact this
  have hE : enc f (V l) e < 18446744073709551616 := by omega
  have t7 : IntKind.u64.wrap (((unit f (V l) e - lo f).toNat * 2 ^ fb f + V l * 2 ^ (e - unit f (V l) e).toNat : Nat) : Int) = ((enc f (V l) e : Nat) : Int) := u64 (by omega) (by unfold enc at hE; omega)
  have t8 := u64 (n := (((unit f (V l) e - lo f).toNat : Nat) : Int)) (by omega) (by omega)
  have t9 := shl_u64 hA (by omega)
  have t10 := shl_u64 hB hsm
  have hj := join_eq h (x := enc f (V l) e) (by omega) s
  have hVi : ¬ ((V l : Nat) : Int) = 0 := by omega
  have c1 : ¬ ((bl (V l) : Nat) : Int) > ((fb f : Nat) : Int) + 1 := by omega
  have c2 : ¬ e < lo f := by omega
  have c3 : ¬ e + ((bl (V l) : Nat) : Int) > wd f := by omega
  have c4 : (0 : Int) ≤ (((e - unit f (V l) e).toNat : Nat) : Int) := by omega
  have c5 : (0 : Int) ≤ ((fb f : Nat) : Int) := by omega
  have hm := mo_le h
  have hL := len64_ev (x := ((V l : Nat) : Int)) ⟨by omega, by omega⟩
  rw [Int.toNat_natCast] at hL
  have t1 : wrap64 (e + ((bl (V l) : Nat) : Int)) = e + ((bl (V l) : Nat) : Int) := waddx (by omega) (by omega) (by omega) (by omega)
  have t2 : wrap64 (((fb f : Nat) : Int) + 1) = ((fb f : Nat) : Int) + 1 := by clear t1; exact waddx (by omega) (by omega) (by omega) (by omega)
  have t3 : wrap64 (wrap64 (Int.tdiv ((mo f : Nat) : Int) 2) + 1) = wd f := by
    clear t1 t2
    have e3 : wrap64 (Int.tdiv ((mo f : Nat) : Int) 2) = ((mo f / 2 : Nat) : Int) := w64n (by show (0 : Int) ≤ ((mo f / 2 : Nat) : Int); omega) (by show ((mo f / 2 : Nat) : Int) < _; omega)
    rw [e3, waddx (by clear e3; omega) (by clear e3; omega) (by clear e3; omega) (by clear e3; omega), wd_eq h]
  have t4 := unit_wrap h he hw (by clear t1 t2 t3; omega : bl (V l) ≤ 100)
  have t5 : wrap64 (e - unit f (V l) e) = (((e - unit f (V l) e).toNat : Nat) : Int) := by clear t1 t2 t3 t4; rw [wsubx (by omega) (by omega) (by omega) (by omega)]; omega
  have t6 : wrap64 (unit f (V l) e - lo f) = (((unit f (V l) e - lo f).toNat : Nat) : Int) := by clear t1 t2 t3 t4 t5; rw [wsubx (by omega) (by omega) (by omega) (by omega)]; omega
  have hN := dyad_May_true hd
  have hlow := low_eq h
  have hop := word_open_nil h
  clear e1 e2 hA hB hE hplt hbig h2 hil hsp hm hub hu hul he hw hn hpf hsm
  unfold word_Of.f
  refine Ev.bind (hop) ?_; try dsimp only
  refine ev_neg (fun h => h rfl) ?_
  refine ev_bind (hN) ?_; try dsimp only
  refine ev_neg (by simp) ?_
  refine Ev.bind (hnum) ?_; try dsimp only
  refine Ev.bind (hL) ?_; try dsimp only
  rw [t2]
  refine ev_neg (by simp) (ev_neg c1 (ev_pos hVi ?_))
  refine ev_bind (hlow) ?_; try dsimp only
  refine ev_neg c2 ?_
  rw [t3, t1]
  refine ev_neg c3 (ev_neg hVi ?_)
  refine ev_bind (hlow) ?_; try dsimp only
  rw [t4, t5]
  refine ev_pos c4 ?_
  refine ev_bind (hlow) ?_; try dsimp only
  refine ev_pos c5 ?_
  rw [t6, t8, t9, t10, ← Int.natCast_add, t7]
  refine ev_bind (hj) ?_; try dsimp only
  exact Ev.now _
/-! ### named words -/
theorem named_end {f : Int} (h : isF f) (s : Bool) {x : Nat} (hx : x < sg f) : Ev (fun _ => if s = true then (some (Go.bits .or .u64 (x : Int) (sg f : Int), (0 : Int))) else (some ((x : Int), 0))) (((x + sgn f s : Nat) : Int), 0) := by
  unfold sgn
  cases s
  · (repeat (first | (with_reducible refine ev_pos ?_ ?_; focus (first | omega | assumption | (simp; done) | (simp; omega))) | (with_reducible refine ev_neg ?_ ?_; focus (first | omega | assumption | (simp; done) | (simp; omega)))))
    exact Ev.now _
  · (repeat (first | (with_reducible refine ev_pos ?_ ?_; focus (first | omega | assumption | (simp; done) | (simp; omega))) | (with_reducible refine ev_neg ?_ ?_; focus (first | omega | assumption | (simp; done) | (simp; omega)))))
    rw [or_sign h hx, if_pos rfl]
    exact Ev.now _
theorem word_Zero_ev {f : Int} (h : isF f) (s : Bool) : Ev (fun k => word_Zero.f k f s) (((sgn f s : Nat) : Int), 0) := by
  have hp := sg_pos h
  have hn := named_end h s (x := 0) hp.1
  rw [Nat.zero_add] at hn
  unfold word_Zero.f word_named_word_Zero_1.f
  refine Ev.bind (a := (((sgn f s : Nat) : Int), 0)) ?_ (Ev.now _)
  refine Ev.bind (word_open_nil h) ?_; try dsimp only
  (repeat (first | (with_reducible refine ev_pos ?_ ?_; focus (first | omega | assumption | (simp; done) | (simp; omega))) | (with_reducible refine ev_neg ?_ ?_; focus (first | omega | assumption | (simp; done) | (simp; omega)))))
  exact ev_bind rfl hn
theorem word_Inf_ev {f : Int} (h : isF f) (s : Bool) : Ev (fun k => word_Inf.f k f s) (((mo f * 2 ^ fb f + sgn f s : Nat) : Int), 0) := by
  have hil := inf_lt h
  have hp := pw_pos (fb f)
  have hn := named_end h s (x := mo f * 2 ^ fb f) (by omega)
  unfold word_Inf.f word_named_word_shape_inf.f
  refine Ev.bind (a := (((mo f * 2 ^ fb f + sgn f s : Nat) : Int), 0)) ?_ (Ev.now _)
  refine Ev.bind (word_open_nil h) ?_; try dsimp only
  (repeat (first | (with_reducible refine ev_pos ?_ ?_; focus (first | omega | assumption | (simp; done) | (simp; omega))) | (with_reducible refine ev_neg ?_ ?_; focus (first | omega | assumption | (simp; done) | (simp; omega)))))
  exact ev_bind (inf_eq h) hn
theorem word_Greatest_ev {f : Int} (h : isF f) (s : Bool) : Ev (fun k => word_Greatest.f k f s) (((mo f * 2 ^ fb f - 1 + sgn f s : Nat) : Int), 0) := by
  have hil := inf_lt h
  have hp := pw_pos (fb f)
  have hsp := sg_pos h
  have hm := mo_ge h
  have hq : 1 ≤ mo f * 2 ^ fb f := Nat.mul_pos (by omega) hp
  have hl : word_Greatest_1.f ((fb f : Nat) : Int) ((mo f : Nat) : Int) ((sg f : Nat) : Int) = some ((mo f * 2 ^ fb f - 1 : Nat) : Int) := by
    unfold word_Greatest_1.f
    rw [inf_eq h, Option.bind_some, u64m]
    congr 1
    omega
  have hn := named_end h s (x := mo f * 2 ^ fb f - 1) (by omega)
  unfold word_Greatest.f word_named_word_Greatest_1.f
  refine Ev.bind (a := (((mo f * 2 ^ fb f - 1 + sgn f s : Nat) : Int), 0)) ?_ (Ev.now _)
  refine Ev.bind (word_open_nil h) ?_; try dsimp only
  (repeat (first | (with_reducible refine ev_pos ?_ ?_; focus (first | omega | assumption | (simp; done) | (simp; omega))) | (with_reducible refine ev_neg ?_ ?_; focus (first | omega | assumption | (simp; done) | (simp; omega)))))
  exact ev_bind hl hn
/-- The canonical NaN. -/
def nanW (f : Int) : Nat := mo f * 2 ^ fb f + 2 ^ (fb f - 1)
theorem word_None_ev {f : Int} (h : isF f) : Ev (fun k => word_None.f k f) (((nanW f : Nat) : Int), 0) := by
  have hl : word_shape_none.f ((fb f : Nat) : Int) ((mo f : Nat) : Int) ((sg f : Nat) : Int) = some ((nanW f : Nat) : Int) := by
    rcases h with rfl | rfl <;> decide +kernel
  unfold word_None.f word_named_word_shape_none.f
  refine Ev.bind (a := (((nanW f : Nat) : Int), 0)) ?_ (Ev.now _)
  refine Ev.bind (word_open_nil h) ?_; try dsimp only
  (repeat (first | (with_reducible refine ev_pos ?_ ?_; focus (first | omega | assumption | (simp; done) | (simp; omega))) | (with_reducible refine ev_neg ?_ ?_; focus (first | omega | assumption | (simp; done) | (simp; omega)))))
  refine ev_bind (hl) ?_; try dsimp only
  (repeat (first | (with_reducible refine ev_pos ?_ ?_; focus (first | omega | assumption | (simp; done) | (simp; omega))) | (with_reducible refine ev_neg ?_ ?_; focus (first | omega | assumption | (simp; done) | (simp; omega)))))
  exact Ev.now _
end Go.Proofs.YtclegbgmhimenaaDoor.Eng.K

/- Words of both formats, the reference: fields, class, named words, values. -/
set_option linter.unusedVariables false
set_option linter.unusedSimpArgs false
namespace Go.Proofs.YtclegbgmhimenaaDoor.Eng.K
open Go.RowKit

instance (f : Int) : Decidable (isF f) := inferInstanceAs (Decidable (f = 1 ∨ f = 2))
theorem rIs_eq (f : Int) : cutplaneref03_Is.f f = some (decide (isF f)) := by
  unfold cutplaneref03_Is.f isF
  by_cases h : f = 1
  · rw [if_pos h]; simp [h]
  · rw [if_neg h]; simp [h]
def isM (m : Int) : Prop := 1 ≤ m ∧ m ≤ 5
instance (m : Int) : Decidable (isM m) := inferInstanceAs (Decidable (1 ≤ m ∧ m ≤ 5))
theorem rIsM_eq (m : Int) : cutplaneref04_Is.f m = some (decide (isM m)) := by
  unfold cutplaneref04_Is.f isM
  by_cases h : m ≥ 1
  · rw [if_pos h]; simp [show 1 ≤ m from h]
  · rw [if_neg h]; simp [show ¬ 1 ≤ m from h]
theorem rGood_eq {f : Int} (h : isF f) {w : Nat} (hw : w < 18446744073709551616) : cutplaneref03_Good.f f (w : Int) = some (goodE f w) := by
  unfold cutplaneref03_Good.f goodE
  rw [rIs_eq, decide_eq_true h, Option.bind_some, if_neg (by simp)]
  rcases h with rfl | rfl
  · rw [if_pos rfl]
    by_cases c : w < 2 * sg 1
    · rw [if_neg (by simp [sg] at c; omega), if_pos c]
    · rw [if_pos (by simp [sg] at c; omega), if_neg c]
  · rw [if_neg (by omega), if_pos (by simp [sg]; omega)]
theorem rSign_eq {f : Int} (h : isF f) : cutplaneref03_Sign.f f = some (sg f : Int) := by rcases h with rfl | rfl <;> rfl
theorem rFrac_eq {f : Int} (h : isF f) : cutplaneref03_Frac.f f = some (fb f : Int) := by rcases h with rfl | rfl <;> rfl
theorem rMost_eq {f : Int} (h : isF f) : cutplaneref03_Most.f f = some (mo f : Int) := by rcases h with rfl | rfl <;> rfl
theorem rLow_eq {f : Int} (h : isF f) : cutplaneref03_Low.f f = some (lo f) := by rcases h with rfl | rfl <;> rfl
theorem wexpo_le {f : Int} (h : isF f) (w : Nat) : wexpo f w ≤ mo f := by
  have hz : w % sg f < sg f := Nat.mod_lt _ (sg_pos h).1
  have : wexpo f w < mo f + 1 := Nat.div_lt_of_lt_mul (by rw [← sg_big h]; exact hz)
  omega
theorem wfrac_lt (f : Int) (w : Nat) : wfrac f w < 2 ^ fb f := Nat.mod_lt _ (pw_pos _)
theorem w_parts (f : Int) (w : Nat) : w % sg f = wexpo f w * 2 ^ fb f + wfrac f w := by
  unfold wexpo wfrac
  have := Nat.div_add_mod (w % sg f) (2 ^ fb f)
  rw [Nat.mul_comm] at this
  exact this.symm
theorem rSplit_eq {f : Int} (h : isF f) (w : Nat) : cutplaneref03_Split.f f (w : Int) = some (wneg f w, (wexpo f w : Int), (wfrac f w : Int)) := by
  have hp := sg_pos h
  have hpp := pw_pos (fb f)
  have hm := mo_le h
  have hx := wexpo_le h w
  have h52 := fb_le h
  unfold cutplaneref03_Split.f
  rw [rSign_eq h, Option.bind_some, Option.bind_some, if_neg (by omega), rFrac_eq h, Option.bind_some, if_pos (by omega), one_shl h, if_neg (by omega), Option.bind_some, if_pos (by omega), tmod_n, tmod_n, shr_n _ _ (by show fb f ≤ 64; omega)]
  have e : wrap64 ((w % sg f / 2 ^ fb f : Nat) : Int) = (wexpo f w : Int) := by
    show wrap64 ((wexpo f w : Nat) : Int) = _
    exact w64n (by omega) (by omega)
  rw [e]
  have e2 : decide ((w : Int) ≥ (sg f : Int)) = wneg f w := decide_eq_decide.2 (by omega)
  rw [e2]
  rfl
theorem cls_eq {f : Int} (h : isF f) (w : Nat) : cls f w = if wexpo f w = 0 then (if wfrac f w = 0 then 1 else 2) else if wexpo f w < mo f then 3 else if wfrac f w = 0 then 4 else 5 := by
  have h1 := w_parts f w
  have h2 := wfrac_lt f w
  have h3 := wexpo_le h w
  have hpp := pw_pos (fb f)
  have hm := mo_ge h
  unfold cls
  rw [h1]
  generalize wfrac f w = r at *
  generalize wexpo f w = q at *
  generalize 2 ^ fb f = p at *
  by_cases c : q = 0
  · subst c
    simp only [Nat.zero_mul, Nat.zero_add, if_true]
    by_cases c2 : r = 0
    · simp [c2]
    · rw [if_neg c2, if_pos h2, if_neg c2]
  · have h4 : p ≤ q * p := Nat.le_mul_of_pos_left _ (by omega)
    rw [if_neg (by omega), if_neg (by omega), if_neg c]
    by_cases c2 : q < mo f
    · have h5 : (q + 1) * p ≤ mo f * p := Nat.mul_le_mul_right _ c2
      rw [Nat.add_mul, Nat.one_mul] at h5
      rw [if_pos (by omega), if_pos c2]
    · have h5 : q = mo f := by omega
      rw [h5, if_neg (by omega), if_neg (Nat.lt_irrefl _)]
      by_cases c3 : r = 0
      · rw [if_pos (by omega), if_pos c3]
      · rw [if_neg (by omega), if_neg c3]
theorem rClass_eq {f : Int} (h : isF f) (w : Nat) : cutplaneref03_Class.f f (w : Int) = some (cls f w) := by
  unfold cutplaneref03_Class.f
  rw [rSplit_eq h, Option.bind_some, cls_eq h, rMost_eq h]
  generalize wfrac f w = r
  generalize wexpo f w = q
  generalize mo f = m
  simp only [Option.bind_some]
  by_cases c : q = 0
  · rw [if_pos (by omega), if_pos c]
    by_cases c2 : r = 0
    · rw [if_pos (by omega), if_pos c2]
    · rw [if_neg (by omega), if_pos (by omega), if_neg c2]
  · rw [if_neg (by omega), if_neg (by omega), if_neg c]
    by_cases c2 : q < m
    · rw [if_pos (by omega), if_pos c2]
    · rw [if_neg (by omega), if_neg c2]
      by_cases c3 : r = 0
      · rw [if_pos (by omega), if_pos c3]
      · rw [if_neg (by omega), if_neg c3]
theorem wmag_lt {f : Int} (h : isF f) (w : Nat) : wmag f w < 18446744073709551616 := by
  have := wfrac_lt f w
  have := pfb h
  unfold wmag; split <;> omega
theorem wex_b {f : Int} (h : isF f) (w : Nat) : -1074 ≤ wex f w ∧ wex f w ≤ 3000 := by
  have := wexpo_le h w
  have := mo_le h
  have := lo_b h
  unfold wex; split <;> omega
theorem rValue_ev {f : Int} (h : isF f) (w : Nat) : Ev (fun k => cutplaneref03_Value.f k f (w : Int)) (mk (sv (wneg f w) (wmag f w)) (wex f w)) := by
  have hlt := wmag_lt h w
  have hwb := wex_b h w
  have hfr := wfrac_lt f w
  have hpw := pfb h
  have hx := wexpo_le h w
  have hm := mo_le h
  have hlo := lo_b h
  have o1 := ref_Of_ev (n := (wmag f w : Int)) (by omega) (by omega)
  rw [Int.toNat_natCast] at o1
  have f1 := ref_Form_ev (wneg f w) (Nm_D (wmag f w)) (by
    have : (D (wmag f w)).length ≤ 2 := D_lt (by omega)
    omega) (e := wex f w) (by omega) (by omega)
  rw [V_D] at f1
  unfold cutplaneref03_Value.f
  refine ev_bind (rSplit_eq h w) ?_; try dsimp only
  by_cases c : wexpo f w = 0
  · have e1 : wmag f w = wfrac f w := by unfold wmag; rw [if_pos c]
    have e2 : wex f w = lo f := by unfold wex; rw [if_pos c]; omega
    rw [e1] at o1
    rw [e1, e2] at f1
    refine ev_pos (by omega) ?_
    refine Ev.bind (o1) ?_; try dsimp only
    refine ev_bind (rLow_eq h) ?_; try dsimp only
    refine Ev.bind (f1) ?_; try dsimp only
    rw [e1, e2]
    exact Ev.now _
  · have e1 : wmag f w = 2 ^ fb f + wfrac f w := by unfold wmag; rw [if_neg c]
    have e2 : wex f w = (wexpo f w : Int) - 1 + lo f := by unfold wex; rw [if_neg c]
    have e3 : IntKind.u64.wrap (((2 ^ fb f : Nat) : Int) + (wfrac f w : Int)) = (wmag f w : Int) := by rw [e1, ← Int.natCast_add]; exact u64 (by omega) (by omega)
    have e4 : wrap64 (wrap64 ((wexpo f w : Int) - 1) + lo f) = wex f w := by rw [e2]; unfold wrap64; omega
    refine ev_neg (by omega) ?_
    refine ev_bind (rFrac_eq h) ?_; try dsimp only
    rw [one_shl h, e3]
    refine ev_pos (by omega) ?_
    refine Ev.bind (o1) ?_; try dsimp only
    refine ev_bind (rLow_eq h) ?_; try dsimp only
    rw [e4]
    refine Ev.bind (f1) ?_; try dsimp only
    exact Ev.now _
end Go.Proofs.YtclegbgmhimenaaDoor.Eng.K

