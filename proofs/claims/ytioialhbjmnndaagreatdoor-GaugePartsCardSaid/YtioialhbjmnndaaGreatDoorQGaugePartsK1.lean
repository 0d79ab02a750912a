import Derived.Test.YtioialhbjmnndaaGreatDoorQGaugePartsF1
import Derived.Laws.BitsAllLaws
import Derived.KernelRfl
set_option linter.unusedVariables false
set_option linter.unusedSimpArgs false
namespace Go.Proofs.YtioialhbjmnndaaGreatDoor.Eng
def Ev {α : Type} (g : Nat → Option α) (r : α) : Prop := ∃ n, ∀ k, n ≤ k → g k = some r
theorem Ev.now {α : Type} (r : α) : Ev (fun _ => some r) r := ⟨0, fun _ _ => rfl⟩
theorem Ev.bind {α β : Type} {g : Nat → Option α} {f : Nat → α → Option β} {a : α} {r : β} (h : Ev g a) (k : Ev (fun n => f n a) r) : Ev (fun n => (g n).bind (f n)) r := by
 obtain ⟨n, hn⟩ := h
 obtain ⟨m, hm⟩ := k
 exact ⟨n + m, fun i hi => by show (g i).bind (f i) = some r; rw [hn i (by omega), Option.bind_some]; exact hm i (by omega)⟩
theorem Ev.step {α : Type} {g f : Nat → Option α} {r : α} (h : ∀ k, g (k + 1) = f k) (k : Ev f r) : Ev g r := by
 obtain ⟨n, hn⟩ := k
 refine ⟨n + 1, fun i hi => ?_⟩
 obtain ⟨i, rfl⟩ : ∃ j, i = j + 1 := ⟨i - 1, by omega⟩
 rw [h]; exact hn i (by omega)
end Go.Proofs.YtioialhbjmnndaaGreatDoor.Eng
namespace Go.Proofs.YtioialhbjmnndaaGreatDoor.Eng.K
open Go.RowKit
theorem w64 {n : Int} (h0 : -9223372036854775808 ≤ n) (h1 : n < 9223372036854775808) : wrap64 n = n := by unfold wrap64; omega
theorem zaw {n : Int} (h0 : 0 ≤ n) (h1 : n < 9223372036854775808) : wrap64 n = n := by unfold wrap64; omega
theorem u64 {n : Int} (h0 : 0 ≤ n) (h1 : n < 18446744073709551616) : IntKind.u64.wrap n = n := by
 simp [IntKind.wrap, IntKind.bits, IntKind.signed]; omega
theorem za7 (n : Int) : IntKind.u64.wrap n = n % 18446744073709551616 := by
 simp [IntKind.wrap, IntKind.bits, IntKind.signed]
theorem rdn (xs : List Int) (n : Nat) : rd xs (n : Int) = xs.getD n 0 := by simp [rd]
theorem zab {xs ys : List Int} {y : Int} {i : Int} (h : i = (xs.length : Int)) : rd (xs ++ y :: ys) i = y := by
 subst h; simp [rd]
theorem zbu {xs ys : List Int} {y z : Int} {i : Int} (h : i = (xs.length : Int)) : (xs ++ y :: ys).set i.toNat z = (xs ++ [z]) ++ ys := by
 subst h; simp
theorem zh {α : Type} {g : Nat → Option α} {r s : α} (h : Ev g r) (e : r = s) : Ev g s := e ▸ h
theorem zfX {α : Type} {x : Option α} {r : α} (h : x = some r) : Ev (fun _ => x) r := by subst h; exact Ev.now r
theorem ze {α : Type} {c : Prop} {_ : Decidable c} {g f : Nat → Option α} {r : α} (h : c) (k : Ev g r) : Ev (fun n => if c then g n else f n) r := by
 simpa [h] using k
theorem zf {α : Type} {c : Prop} {_ : Decidable c} {g f : Nat → Option α} {r : α} (h : ¬ c) (k : Ev f r) : Ev (fun n => if c then g n else f n) r := by
 simpa [h] using k
theorem ep {α : Type} {c : Prop} {_ : Decidable c} {g f : Nat → Option α} {r : α} (k : Ev g r) (h : c := by (first | omega | assumption | (simp; done) | (simp; omega))) : Ev (fun n => if c then g n else f n) r := ze h k
theorem en {α : Type} {c : Prop} {_ : Decidable c} {g f : Nat → Option α} {r : α} (k : Ev f r) (h : ¬ c := by (first | omega | assumption | (simp; done) | (simp; omega))) : Ev (fun n => if c then g n else f n) r := zf h k
theorem zi {α β : Type} {x : Option α} {f : Nat → α → Option β} {a : α} {r : β} (h : x = some a) (k : Ev (fun n => f n a) r) : Ev (fun n => x.bind (f n)) r := by
 subst h; exact k
theorem zg {α : Type} {g : Nat → Option α} {r : α} (k : Ev (fun n => g (n + 1)) r) : Ev g r := Ev.step (fun _ => rfl) k
theorem Ev.unique {α : Type} {g : Nat → Option α} {r s : α} (h : Ev g r) (k : Ev g s) : r = s := by
 obtain ⟨a, ha⟩ := h; obtain ⟨b, hb⟩ := k
 have h1 := ha (max a b) (Nat.le_max_left _ _); have h2 := hb (max a b) (Nat.le_max_right _ _)
 rw [h1] at h2; exact Option.some.inj h2
def Dg (l : List Int) : Prop := ∀ x ∈ l, 0 ≤ x ∧ x < 4294967296
def V : List Int → Nat
 | [] => 0
 | d :: l => d.toNat + 4294967296 * V l
def D (n : Nat) : List Int := if h : n = 0 then [] else ((n % 4294967296 : Nat) : Int) :: D (n / 4294967296)
termination_by n
decreasing_by omega
theorem Dg.nil : Dg [] := fun _ h => by simp at h
theorem Dg.cons {d : Int} {l : List Int} (h0 : 0 ≤ d) (h1 : d < 4294967296) (h : Dg l) : Dg (d :: l) := fun x hx => by
 rcases List.mem_cons.1 hx with rfl | hx
 ·exact ⟨h0, h1⟩
 ·exact h x hx
theorem Dg.head {d : Int} {l : List Int} (h : Dg (d :: l)) : 0 ≤ d ∧ d < 4294967296 := h d (by simp)
theorem Dg.tail {d : Int} {l : List Int} (h : Dg (d :: l)) : Dg l := fun x hx => h x (by simp [hx])
theorem Dg.app {a b : List Int} (h : Dg a) (k : Dg b) : Dg (a ++ b) := fun x hx => by
 rcases List.mem_append.1 hx with hx | hx
 ·exact h x hx
 ·exact k x hx
theorem Dg.left {a b : List Int} (h : Dg (a ++ b)) : Dg a := fun x hx => h x (by simp [hx])
theorem Dg.right {a b : List Int} (h : Dg (a ++ b)) : Dg b := fun x hx => h x (by simp [hx])
theorem Dg.take {a : List Int} (h : Dg a) (n : Nat) : Dg (a.take n) := fun x hx => h x (List.mem_of_mem_take hx)
theorem Dg.drop {a : List Int} (h : Dg a) (n : Nat) : Dg (a.drop n) := fun x hx => h x (List.mem_of_mem_drop hx)
theorem Dg.zeros (n : Nat) : Dg (List.replicate n 0) := fun x hx => by
 obtain ⟨_, rfl⟩ := List.mem_replicate.1 hx; omega
theorem Dg.getD {a : List Int} (h : Dg a) (n : Nat) : 0 ≤ a.getD n 0 ∧ a.getD n 0 < 4294967296 := by
 rw [List.getD_eq_getElem?_getD]
 cases e : a[n]? with
 | none => simp
 | some x => simpa using h x (List.mem_of_getElem? e)
theorem Dg.rd {a : List Int} (h : Dg a) (i : Int) : 0 ≤ rd a i ∧ rd a i < 4294967296 := h.getD i.toNat
theorem Dg.set {a : List Int} (h : Dg a) (n : Nat) {x : Int} (h0 : 0 ≤ x) (h1 : x < 4294967296) : Dg (a.set n x) := fun y hy => by
 rcases List.mem_or_eq_of_mem_set hy with hy | rfl
 ·exact h y hy
 ·exact ⟨h0, h1⟩
@[simp] theorem zap : V [] = 0 := rfl
@[simp] theorem zx (d : Int) (l : List Int) : V (d :: l) = d.toNat + 4294967296 * V l := rfl
theorem zax (a b : List Int) : V (a ++ b) = V a + 4294967296 ^ a.length * V b := by
 induction a with
 | nil => simp
 | cons d a ih => simp [ih, Nat.pow_succ]; grind
theorem zcY (n : Nat) : V (List.replicate n 0) = 0 := by
 induction n with
 | zero => rfl
 | succ n ih => simp [List.replicate_succ, ih]
theorem zaQ {l : List Int} (h : Dg l) : V l < 4294967296 ^ l.length := by
 induction l with
 | nil => simp
 | cons d l ih =>
  have := ih h.tail; have := h.head
  simp only [zx, List.length_cons, Nat.pow_succ]
  omega
theorem zJ : D 0 = [] := by unfold D; simp
theorem zbz {n : Nat} (h : n ≠ 0) : D n = ((n % 4294967296 : Nat) : Int) :: D (n / 4294967296) := by
 conv => lhs; unfold D
 simp [h]
theorem V_D (n : Nat) : V (D n) = n := by
 induction n using Nat.strongRecOn with
 | _ n ih =>
  by_cases h : n = 0
  ·subst h; simp [zJ]
  ·rw [zbz h, zx, ih _ (by omega)]; omega
theorem zco (n : Nat) : Dg (D n) := by
 induction n using Nat.strongRecOn with
 | _ n ih =>
  by_cases h : n = 0
  ·subst h; rw [zJ]; exact Dg.nil
  ·rw [zbz h]; exact Dg.cons (by omega) (by omega) (ih _ (by omega))
theorem zcS {d : Int} {n : Nat} (h0 : 0 ≤ d) (h1 : d < 4294967296) (h : d ≠ 0 ∨ n ≠ 0) : D (d.toNat + 4294967296 * n) = d :: D n := by
 rw [zbz (by omega)]
 congr 1
 ·omega
 ·congr 1; omega
def Nm (l : List Int) : Prop := D (V l) = l
instance (l : List Int) : Decidable (Nm l) := inferInstanceAs (Decidable (D (V l) = l))
theorem Nm.dg {l : List Int} (h : Nm l) : Dg l := h ▸ zco _
theorem zt (n : Nat) : Nm (D n) := by unfold Nm; rw [V_D]
theorem zcU : Nm [] := by unfold Nm; exact zJ
theorem Nm.inj {a b : List Int} (h : Nm a) (k : Nm b) (e : V a = V b) : a = b := by rw [← h, e, k]
theorem zb1 {l : List Int} (h : Nm l) : V l = 0 ↔ l = [] := by
 constructor
 ·intro e; rw [← h, e, zJ]
 ·rintro rfl; rfl
theorem zcV {l : List Int} {d : Int} (h : Dg l) (h0 : 0 < d) (h1 : d < 4294967296) : Nm (l ++ [d]) := by
 unfold Nm
 induction l with
 | nil =>
  have := zcS (d := d) (n := 0) (by omega) h1 (by omega)
  simpa [zJ] using this
 | cons x l ih =>
  have hx := h.head
  rw [List.cons_append, zx, zcS hx.1 hx.2, ih h.tail]
  right; rw [zax]
  have : 0 < 4294967296 ^ l.length := Nat.pow_pos (by omega)
  have : 0 < 4294967296 ^ l.length * V [d] := Nat.mul_pos this (by simp; omega)
  omega
theorem zcW (l : List Int) : V (l ++ [0]) = V l := by rw [zax]; simp
theorem zfo {l : List Int} (h : Dg l) : (D (V l)).length ≤ l.length := by
 induction l with
 | nil => simp [zJ]
 | cons x l ih =>
  have hx := h.head
  by_cases e : x ≠ 0 ∨ V l ≠ 0
  ·rw [zx, zcS hx.1 hx.2 e]; simpa using ih h.tail
  ·have h1 : x = 0 := by omega
   have h2 : V l = 0 := by omega
   simp [h1, h2, zJ]
theorem zdB {l : List Int} {d : Int} (h : Nm (l ++ [d])) : d ≠ 0 := by
 intro e; subst e
 have h2 := zfo h.dg.left
 have h3 : D (V (l ++ [0])) = l ++ [0] := h
 rw [zcW] at h3
 rw [h3] at h2
 simp at h2
 omega
theorem zdA {l : List Int} (h : Dg l) : Nm l ↔ l = [] ∨ l.getD (l.length - 1) 0 ≠ 0 := by
 rcases List.eq_nil_or_concat l with rfl | ⟨a, d, rfl⟩
 ·simp [zcU]
 ·rw [List.concat_eq_append] at h ⊢
  have : (a ++ [d]).getD ((a ++ [d]).length - 1) 0 = d := by simp
  rw [this]
  constructor
  ·intro k; exact .inr (zdB k)
  ·rintro (k | k)
   ·simp at k
   ·have := h d (by simp)
    exact zcV h.left (by omega) this.2
theorem zdw {n k : Nat} (h : n < 4294967296 ^ k) : (D n).length ≤ k := by
  induction k generalizing n with
  | zero => have : n = 0 := by simpa using h
            subst this; simp [zJ]
  | succ k ih =>
    by_cases e : n = 0
    · subst e; simp [zJ]
    · rw [zbz e, List.length_cons]
      have := ih (n := n / 4294967296) (by rw [Nat.pow_succ] at h; omega)
      omega
theorem zbM (n : Nat) : n < 4294967296 ^ (D n).length := by
 have := zaQ (zco n); rwa [V_D] at this
theorem zfn {n : Nat} (h : n ≠ 0) : 4294967296 ^ ((D n).length - 1) ≤ n := by
 apply Nat.le_of_not_lt
 intro k
 have := zdw k
 have : (D n).length ≠ 0 := by rw [zbz h]; simp
 omega
theorem zbZ {a b : Nat} (h : a ≤ b) : (D a).length ≤ (D b).length :=
 zdw (Nat.lt_of_le_of_lt h (zbM b))
theorem zgh {a b : Nat} (h : (D a).length < (D b).length) : a < b := by
 apply Nat.lt_of_not_le
 intro k
 have := zbZ k
 omega
theorem Nm.len {l : List Int} (h : Nm l) : (D (V l)).length = l.length := by rw [h]
theorem Nm.lt_of_len {a b : List Int} (h : Nm a) (k : Nm b) (e : a.length < b.length) : V a < V b := by
 apply zgh; rw [h, k]; exact e
theorem zC {n : Nat} (h : n < 4611686018427387904) : wrap64 ((n : Int) + 1) = ((n + 1 : Nat) : Int) := by unfold wrap64; omega
theorem zfc {n : Nat} (h : n < 4611686018427387904) : wrap64 (((n + 1 : Nat) : Int) - 1) = (n : Int) := by unfold wrap64; omega
theorem ze7 : ∀ (n : Nat) (l : List Int), l.length = n → Dg l → n < 4611686018427387904 → Ev (fun k => zl.f k l) (D (V l))
 | 0, l, hn, hd, hb => by
  have : l = [] := List.eq_nil_of_length_eq_zero hn
  subst this
  refine zg (zfX ?_)
  simp [zl.f, zl.l0, zJ]
 | n + 1, l, hn, hd, hb => by
  rcases List.eq_nil_or_concat l with rfl | ⟨a, d, rfl⟩
  ·simp at hn
  rw [List.concat_eq_append] at hn hd ⊢
  have hl : (a ++ [d]).length = n + 1 := hn
  have ha : a.length = n := by simpa using hn
  refine zg ?_
  show Ev (fun k => zl.l0 (k + 1) (a ++ [d])) _
  simp only [zl.l0, hl, zfc (n := n) (by omega)]
  refine ze (by omega) (ze (by omega) (ze (by omega) ?_))
  rw [zab (by omega)]
  by_cases h0 : d = 0
  ·subst h0
   refine ze rfl (ze (by omega) ?_)
   rw [zcW]
   have : (a ++ [(0 : Int)]).take (n : Int).toNat = a := by simp [← ha]
   rw [this]
   exact ze (by omega) (ze7 n a ha hd.left (by omega))
  ·refine zf h0 ?_
   have := hd d (by simp)
   rw [zcV hd.left (by omega) this.2]
   exact Ev.now _
theorem zbP {l : List Int} (hd : Dg l) (hb : l.length < 4611686018427387904) : Ev (fun k => zl.f k l) (D (V l)) := ze7 _ l rfl hd hb
theorem zeS (l : List Int) (hd : Dg l) (hb : l.length < 4611686018427387904) : ∀ (n : Nat) (a b : List Int), a.length = n → l = a ++ b → V b = 0 → Ev (fun k => zn.l0 k l n) (D (V l))
 | 0, a, b, hn, he, h0 => by
  have : a = [] := List.eq_nil_of_length_eq_zero hn
  subst this
  refine zg ?_
  simp only [zn.l0]
  refine zf (by omega) (ze (by omega) (ze (by omega) ?_))
  rw [he]; simp [h0, zJ]; exact Ev.now _
 | n + 1, a, b, hn, he, h0 => by
  rcases List.eq_nil_or_concat a with rfl | ⟨a, d, rfl⟩
  ·simp at hn
  rw [List.concat_eq_append] at hn he
  have ha : a.length = n := by simpa using hn
  have hl : l.length = n + 1 + b.length := by rw [he]; simp [ha]; omega
  refine zg ?_
  simp only [zn.l0, zfc (n := n) (by omega)]
  refine ze (by omega) (ze (by omega) (ze (by omega) ?_))
  have hr : rd l n = d := by rw [he, List.append_assoc]; exact zab (by omega)
  rw [hr]
  by_cases hz : d = 0
  ·refine ze hz ?_
   exact zeS l hd hb n a (d :: b) ha (by rw [he]; simp) (by simp [h0, hz])
  ·refine zf hz (ze (by omega) (ze (by omega) ?_))
   have hd2 := hd
   rw [he] at hd2
   have h1 := hd2.left d (by simp)
   have h2 : V l = V (a ++ [d]) := by rw [he, zax (a ++ [d]) b, h0]; simp
   have h3 : l.take ((n + 1 : Nat) : Int).toNat = a ++ [d] := by
    rw [he, Int.toNat_natCast]; exact List.take_left' (by simp [ha])
   rw [h3, h2, zcV hd2.left.left (by omega) h1.2]
   exact Ev.now _
theorem zbR {l : List Int} (hd : Dg l) (hb : l.length < 4611686018427387904) : Ev (fun k => zn.f k l) (D (V l)) :=
 zeS l hd hb l.length l [] rfl (by simp) rfl
theorem zdH (n : Int) (h0 : 0 ≤ n) (h1 : n < 18446744073709551616) : V [n % 4294967296, (n / 4294967296) % 4294967296] = n.toNat := by
 simp; omega
theorem zdx (n : Int) : Dg [n % 4294967296, (n / 4294967296) % 4294967296] := Dg.cons (by omega) (by omega) (Dg.cons (by omega) (by omega) Dg.nil)
theorem zer {n : Int} (h0 : 0 ≤ n) (h1 : n < 18446744073709551616) : Ev (fun k => zal.f k n) (D n.toNat) := by
 unfold zal.f
 refine Ev.bind (zbP (zdx n) (by simp)) ?_
 rw [zdH n h0 h1]; exact Ev.now _
theorem zgZ {n : Int} (h0 : 0 ≤ n) (h1 : n < 18446744073709551616) : Ev (fun k => zaS.f k n) (D n.toNat) := by
 unfold zaS.f
 refine Ev.bind (zbR (zdx n) (by simp)) ?_
 rw [zdH n h0 h1]; exact Ev.now _
theorem zeU (x y : List Int) (hl : x.length = y.length) (hb : x.length < 4611686018427387904) : ∀ (d n : Nat), n + d = x.length → Ev (fun k => zai.l0 k x y n) (decide (x.drop n = y.drop n))
 | 0, n, h => by
  refine zg ?_
  simp only [zai.l0]
  refine zf (by omega) ?_
  rw [List.drop_eq_nil_of_le (by omega), List.drop_eq_nil_of_le (by omega)]
  exact Ev.now _
 | d + 1, n, h => by
  refine zg ?_
  simp only [zai.l0, zC (n := n) (by omega)]
  refine ze (by omega) (ze (by omega) (ze (by omega) (ze (by omega) (ze (by omega) ?_))))
  have hx : n < x.length := by omega
  have hy : n < y.length := by omega
  have e1 : rd x n = x[n] := by rw [rdn]; simp [hx]
  have e2 : rd y n = y[n] := by rw [rdn]; simp [hy]
  have d1 := List.drop_eq_getElem_cons hx
  have d2 := List.drop_eq_getElem_cons hy
  rw [e1, e2]
  by_cases he : x[n] = y[n]
  ·refine zf (fun h => h he) ?_
   refine zh (zeU x y hl hb d (n + 1) (by omega)) ?_
   exact decide_eq_decide.2 ⟨fun h => by rw [d1, d2, he, h], fun h => by rw [d1, d2] at h; exact (List.cons.inj h).2⟩
  ·refine ze he ?_
   refine zh (Ev.now _) ?_
   exact (decide_eq_false (fun h => by rw [d1, d2] at h; exact he (List.cons.inj h).1)).symm
theorem zg1 (x y : List Int) (hb : x.length < 4611686018427387904) : Ev (fun k => zai.f k x y) (decide (x = y)) := by
 unfold zai.f
 by_cases h : x.length = y.length
 ·refine zf (by omega) ?_
  exact zh (zeU x y h hb x.length 0 (by omega)) (by simp)
 ·refine ze (by omega) ?_
  refine zh (Ev.now _) ?_
  have : x ≠ y := fun e => h (by rw [e])
  simp [this]
def may (l : List Int) : Bool := decide (l.length ≤ 4096) && decide (Nm l)
theorem zak {l : List Int} : may l = true ↔ l.length ≤ 4096 ∧ Nm l := by simp [may]
theorem zbs {l : List Int} (h : Dg l) (hb : l.length < 4611686018427387904) : z3.f l = some (may l) := by
 unfold z3.f may
 by_cases h1 : l.length ≤ 4096
 ·rw [if_pos (by omega)]
  by_cases h2 : l.length = 0
  ·have : l = [] := List.eq_nil_of_length_eq_zero h2
   subst this; simp [zcU]
  ·rw [if_neg (by omega)]
   have e : wrap64 ((l.length : Int) - 1) = ((l.length - 1 : Nat) : Int) := by unfold wrap64; omega
   rw [e, if_pos (by omega), if_pos (by omega), rdn]
   have h3 : l ≠ [] := fun e => h2 (by rw [e]; rfl)
   have h4 := zdA h
   by_cases h5 : l.getD (l.length - 1) 0 = 0
   ·have : ¬ Nm l := fun k => by rcases h4.1 k with k | k <;> contradiction
    rw [h5]; simp [this]
   ·have : Nm l := h4.2 (.inr h5)
    simp only [h5, not_false_eq_true, decide_true]; simp [h1, this]
 ·rw [if_neg (by omega)]; simp [h1]
theorem zcr {a b : List Int} (ha : Dg a) (hb : Dg b) (la : a.length < 4611686018427387904) (lb : b.length < 4611686018427387904) : Ev (fun k => zQ.f k [a, b]) (may a && may b) := by
 unfold zQ.f
 refine zg ?_
 simp only [zQ.l0]
 refine ze (by simp) (ze (by omega) (ze (by simp) ?_))
 have e0 : rdT [.is .u32] [a, b] 0 = a := rfl
 have e1 : rdT [.is .u32] [a, b] 1 = b := rfl
 rw [e0]
 refine zi (zbs ha la) ?_
 cases may a with
 | false => exact ze (by simp) (Ev.now _)
 | true =>
  refine zf (by simp) ?_
  have w1 : wrap64 (0 + 1) = 1 := by unfold wrap64; omega
  have w2 : wrap64 (1 + 1) = 2 := by unfold wrap64; omega
  rw [w1]
  refine zg ?_
  simp only [zQ.l0]
  refine ze (by simp) (ze (by omega) (ze (by simp) ?_))
  rw [e1]
  refine zi (zbs hb lb) ?_
  cases may b with
  | false => exact ze (by simp) (Ev.now _)
  | true =>
   refine zf (by simp) ?_
   rw [w2]
   refine zg ?_
   simp only [zQ.l0]
   exact zf (by simp) (Ev.now _)
def zar (n : Nat) : List Int × Int := if (D n).length > 4096 then ([], 3) else (D n, 0)
theorem zet (n : Nat) : z9.f (D n) = some (zar n) := by
 unfold z9.f zar
 by_cases h : (D n).length > 4096
 ·rw [if_pos (by omega), if_pos h]
 ·rw [if_neg (by omega), if_neg h]
theorem zft {x y c : Int} (hx : 0 ≤ x ∧ x < 4294967296) (hy : 0 ≤ y ∧ y < 4294967296) (hc : 0 ≤ c ∧ c < 4294967296) : za9.f x y c = some ((x + y + c) % 4294967296, (x + y + c) / 4294967296) := by
 unfold za9.f
 rw [u64 hx.1 (by omega), u64 hy.1 (by omega), u64 hc.1 (by omega), u64 (n := x + y) (by omega) (by omega), u64 (by omega) (by omega)]
 have : (x + y + c) / 4294967296 % 4294967296 = (x + y + c) / 4294967296 := by omega
 rw [this]
def zaR : List Int → List Int → Int → List Int
 | [], _, c => [c]
 | x :: a, b, c => ((x + b.headD 0 + c) % 4294967296) :: zaR a b.tail ((x + b.headD 0 + c) / 4294967296)
theorem Dg.headD {b : List Int} (h : Dg b) : 0 ≤ b.headD 0 ∧ b.headD 0 < 4294967296 := by
 cases b with
 | nil => simp
 | cons y b => exact h.head
theorem Dg.tl {b : List Int} (h : Dg b) : Dg b.tail := by
 cases b with
 | nil => exact h
 | cons y b => exact h.tail
theorem zbA (b : List Int) : V b = (b.headD 0).toNat + 4294967296 * V b.tail := by
 cases b <;> simp
theorem zfu {a b : List Int} {c : Int} (ha : Dg a) (hb : Dg b) (hc : 0 ≤ c ∧ c ≤ 1) (hl : b.length ≤ a.length) : V (zaR a b c) = V a + V b + c.toNat ∧ Dg (zaR a b c) := by
 induction a generalizing b c with
 | nil =>
  have : b = [] := List.eq_nil_of_length_eq_zero (by simpa using hl)
  subst this
  exact ⟨by simp [zaR], Dg.cons hc.1 (by omega) Dg.nil⟩
 | cons x a ih =>
  have hx := ha.head
  have hy := hb.headD
  have := ih (b := b.tail) (c := (x + b.headD 0 + c) / 4294967296) ha.tail hb.tl (by omega) (by simp at hl ⊢; omega)
  refine ⟨?_, Dg.cons (by omega) (by omega) this.2⟩
  rw [zaR, zx, this.1, zbA b, zx]
  omega
theorem zb8 (b : List Int) (n : Nat) : (b.drop n).headD 0 = b.getD n 0 := by
 rw [List.headD_eq_head?_getD, List.head?_drop, List.getD_eq_getElem?_getD]
theorem zdL (A Bl : List Int) (hA : Dg A) (hB : Dg Bl) (hl : A.length < 1152921504606846976) : ∀ (a done r : List Int) (c : Int) (pa : List Int), A = pa ++ a → done.length = pa.length → r.length = a.length + 1 → 0 ≤ c ∧ c ≤ 1 → Dg done → (Bl.drop done.length).length ≤ a.length →
  Ev (fun k => zm.l0 k A Bl (done ++ r) c A.length done.length) (zar (V (done ++ zaR a (Bl.drop done.length) c)))
 | [], done, r, c, pa, he, hd, hr, hc, hg, hbl => by
  obtain ⟨y, rfl⟩ : ∃ y, r = [y] := by
   match r, hr with
   | [y], _ => exact ⟨y, rfl⟩
  have hlen : A.length = done.length := by rw [he, hd]; simp
  refine zg ?_
  simp only [zm.l0]
  refine zf (by omega) (ze (by omega) (ze (by simp; omega) ?_))
  have hs : (done ++ [y]).set (A.length : Int).toNat c = done ++ [c] := by
   rw [zbu (by omega)]; simp
  rw [hs]
  have hg2 : Dg (done ++ [c]) := hg.app (Dg.cons hc.1 (by omega) Dg.nil)
  refine Ev.bind (zbP hg2 (by simp; omega)) ?_
  refine zi (zet _) ?_
  exact Ev.now _
 | x :: a, done, r, c, pa, he, hd, hr, hc, hg, hbl => by
  obtain ⟨y, r, rfl⟩ : ∃ y r', r = y :: r' := by
   match r, hr with
   | y :: r', _ => exact ⟨y, r', rfl⟩
  have hlen : A.length = done.length + 1 + a.length := by rw [he, hd]; simp; omega
  refine zg ?_
  simp only [zm.l0, zC (n := done.length) (by omega)]
  refine ze (by omega) ?_
  have hx : rd A (done.length : Int) = x := by rw [he]; exact zab (by omega)
  have hxr : 0 ≤ x ∧ x < 4294967296 := by rw [he] at hA; exact hA.right.head
  have hyr := (hB.drop done.length).headD
  have key : ∀ z, z = (Bl.drop done.length).headD 0 → Ev (fun k => (za9.f x z c).bind fun bt => if (done.length : Int) < ((done ++ y :: r).length : Int) then zm.l0 k A Bl ((done ++ y :: r).set (done.length : Int).toNat bt.1) bt.2 A.length ((done.length + 1 : Nat) : Int) else none) (zar (V (done ++ zaR (x :: a) (Bl.drop done.length) c))) := by
   rintro z rfl
   refine zi (zft hxr hyr ⟨hc.1, by omega⟩) ?_
   refine ze (by simp; omega) ?_
   rw [zbu rfl]
   have := zdL A Bl hA hB hl a (done ++ [(x + (Bl.drop done.length).headD 0 + c) % 4294967296]) r ((x + (Bl.drop done.length).headD 0 + c) / 4294967296) (pa ++ [x]) (by rw [he]; simp) (by simp [hd]) (by simpa using hr) (by omega) (hg.app (Dg.cons (by omega) (by omega) Dg.nil)) (by simp at hbl ⊢; omega)
   rw [List.length_append, List.length_singleton] at this
   refine zh this ?_
   rw [zaR, List.tail_drop]; simp
  have jn : ∀ z, z = (Bl.drop done.length).headD 0 → Ev (fun n => zm.j3 n A Bl (done ++ y :: r) c (done.length : Int) z A.length (done.length : Int)) (zar (V (done ++ zaR (x :: a) (Bl.drop done.length) c))) := by
   intro z hz
   refine zg ?_
   simp only [zm.j3, zC (n := done.length) (by omega)]
   refine ze (by omega) (ze (by omega) ?_)
   rw [hx]
   have := key z hz
   simpa only [show (0 : Int) ≤ (done.length : Int) by omega, if_true] using this
  by_cases hb : (done.length : Int) < (Bl.length : Int)
  ·refine ze hb (ze (by omega) (ze (by omega) ?_))
   exact jn _ (by rw [zb8, rdn])
  ·refine zf hb ?_
   exact jn 0 (by rw [List.drop_eq_nil_of_le (by omega)]; rfl)
theorem zdK {a b : List Int} (ha : Dg a) (hb : Dg b) (hl : b.length ≤ a.length) (hn : a.length ≤ 4096) : Ev (fun k => zm.j1 k a b) (zar (V a + V b)) := by
 refine zg ?_
 simp only [zm.j1, zC (n := a.length) (by omega)]
 refine ze (by omega) (ze (by omega) ?_)
 have := zdL a b ha hb (by omega) a [] (List.replicate (a.length + 1) 0) 0 [] rfl rfl (by simp) (by omega) Dg.nil (by simpa using hl)
 refine zh this ?_
 have h2 := zfu ha hb (c := 0) (by omega) hl
 simp [h2.1]
theorem zgt {a b : List Int} (ha : Nm a) (hb : Nm b) (la : a.length ≤ 4096) (lb : b.length ≤ 4096) : Ev (fun k => zm.f k a b) (zar (V a + V b)) := by
 unfold zm.f
 refine Ev.bind (zcr ha.dg hb.dg (by omega) (by omega)) ?_
 have h1 : may a = true := zak.2 ⟨la, ha⟩
 have h2 : may b = true := zak.2 ⟨lb, hb⟩
 refine zf (by simp [h1, h2]) ?_
 by_cases h : a.length < b.length
 ·refine ze (by omega) ?_
  rw [Nat.add_comm]; exact zdK hb.dg ha.dg (by omega) lb
 ·exact zf (by omega) (zdK ha.dg hb.dg (by omega) la)
def zM (m n : Nat) : Int := if m < n then -1 else if n < m then 1 else 0
theorem zcX {l : List Int} {n : Nat} (h : n < l.length) : V (l.take (n + 1)) = V (l.take n) + 4294967296 ^ n * (l.getD n 0).toNat := by
 rw [List.take_succ_eq_append_getElem h, zax]
 simp [Nat.min_eq_left (Nat.le_of_lt h), h]
theorem ze6 {p q P d e : Nat} (hp : p < P) (h : d < e) : p + P * d < q + P * e := by
 have : P * (d + 1) ≤ P * e := Nat.mul_le_mul_left _ h
 rw [Nat.mul_add] at this
 omega
theorem zdF {l : List Int} (h : Dg l) {n : Nat} (hn : n ≤ l.length) : V (l.take n) < 4294967296 ^ n := by
 have := zaQ (h.take n); rwa [List.length_take, Nat.min_eq_left hn] at this
theorem zd1 {x y : List Int} (hx : Dg x) (hy : Dg y) {n : Nat} (h1 : n < x.length) (h2 : n < y.length) :
  zM (V (x.take (n + 1))) (V (y.take (n + 1))) = if x.getD n 0 = y.getD n 0 then zM (V (x.take n)) (V (y.take n)) else if x.getD n 0 < y.getD n 0 then -1 else 1 := by
 rw [zcX h1, zcX h2]
 have a := hx.getD n
 have b := hy.getD n
 have p := zdF hx (Nat.le_of_lt h1)
 have q := zdF hy (Nat.le_of_lt h2)
 by_cases e : x.getD n 0 = y.getD n 0
 ·rw [if_pos e, e]; unfold zM; simp
 ·rw [if_neg e]
  by_cases c : x.getD n 0 < y.getD n 0
  ·rw [if_pos c]
   have := ze6 (q := V (y.take n)) p (show (x.getD n 0).toNat < (y.getD n 0).toNat by omega)
   unfold zM; rw [if_pos this]
  ·rw [if_neg c]
   have := ze6 (q := V (x.take n)) q (show (y.getD n 0).toNat < (x.getD n 0).toNat by omega)
   unfold zM; rw [if_neg (by omega), if_pos this]
theorem zcP {n : Nat} (h : n < 4611686018427387904) : wrap64 ((n : Int) - 1) = (n : Int) - 1 := by unfold wrap64; omega
theorem zd0 {x y : List Int} (hx : Dg x) (hy : Dg y) (hb : x.length < 4611686018427387904) : ∀ (n : Nat), n ≤ x.length → n ≤ y.length → Ev (fun k => zaa.l0 k x y ((n : Int) - 1)) (zM (V (x.take n)) (V (y.take n)))
 | 0, _, _ => by
  refine zg ?_
  simp only [zaa.l0]
  (repeat (first | with_reducible refine ep ?_ | with_reducible refine en ?_)); exact Ev.now _
 | n + 1, h1, h2 => by
  refine zg ?_
  simp only [zaa.l0]
  have e : ((n + 1 : Nat) : Int) - 1 = (n : Int) := by omega
  rw [e, zcP (n := n) (by omega)]
  (repeat (first | with_reducible refine ep ?_ | with_reducible refine en ?_))
  rw [zd1 hx hy (by omega) (by omega), rdn, rdn]
  by_cases c : x.getD n 0 = y.getD n 0
  ·(repeat (first | with_reducible refine ep ?_ | with_reducible refine en ?_))
   rw [if_pos c]
   exact zd0 hx hy hb n (by omega) (by omega)
  ·(repeat (first | with_reducible refine ep ?_ | with_reducible refine en ?_))
   rw [if_neg c]
   by_cases c2 : x.getD n 0 < y.getD n 0
   ·(repeat (first | with_reducible refine ep ?_ | with_reducible refine en ?_))
    rw [if_pos c2]; exact Ev.now _
   ·(repeat (first | with_reducible refine ep ?_ | with_reducible refine en ?_))
    rw [if_neg c2]; exact Ev.now _
theorem zeu {x y : List Int} (hx : Nm x) (hy : Nm y) (hb : x.length < 4611686018427387904) : Ev (fun k => zaa.f k x y) (zM (V x) (V y)) := by
 unfold zaa.f
 by_cases c : x.length < y.length
 ·(repeat (first | with_reducible refine ep ?_ | with_reducible refine en ?_))
  unfold zM; rw [if_pos (hx.lt_of_len hy c)]; exact Ev.now _
 ·(repeat (first | with_reducible refine ep ?_ | with_reducible refine en ?_))
  by_cases c2 : y.length < x.length
  ·(repeat (first | with_reducible refine ep ?_ | with_reducible refine en ?_))
   have := hy.lt_of_len hx c2
   unfold zM; rw [if_neg (by omega), if_pos this]; exact Ev.now _
  ·(repeat (first | with_reducible refine ep ?_ | with_reducible refine en ?_))
   have e : x.length = y.length := by omega
   rw [zcP (by omega)]
   have := zd0 hx.dg hy.dg hb x.length (by omega) (by omega)
   rwa [List.take_length, e, List.take_length, ← e] at this
theorem zeH {x y : List Int} (hx : Dg x) (hy : Dg y) (hb : x.length < 4611686018427387904) : ∀ (n : Nat), n ≤ x.length → n ≤ y.length → Ev (fun k => zah.l0 k x y ((n : Int) - 1)) (zM (V (x.take n)) (V (y.take n)))
 | 0, _, _ => by
  refine zg ?_
  simp only [zah.l0]
  (repeat (first | with_reducible refine ep ?_ | with_reducible refine en ?_)); exact Ev.now _
 | n + 1, h1, h2 => by
  refine zg ?_
  simp only [zah.l0]
  have e : ((n + 1 : Nat) : Int) - 1 = (n : Int) := by omega
  rw [e, zcP (n := n) (by omega)]
  (repeat (first | with_reducible refine ep ?_ | with_reducible refine en ?_))
  rw [zd1 hx hy (by omega) (by omega), rdn, rdn]
  by_cases c2 : x.getD n 0 < y.getD n 0
  ·(repeat (first | with_reducible refine ep ?_ | with_reducible refine en ?_))
   rw [if_neg (by omega), if_pos c2]; exact Ev.now _
  ·(repeat (first | with_reducible refine ep ?_ | with_reducible refine en ?_))
   by_cases c : x.getD n 0 > y.getD n 0
   ·(repeat (first | with_reducible refine ep ?_ | with_reducible refine en ?_))
    rw [if_neg (by omega), if_neg c2]; exact Ev.now _
   ·(repeat (first | with_reducible refine ep ?_ | with_reducible refine en ?_))
    rw [if_pos (by omega)]
    exact zeH hx hy hb n (by omega) (by omega)
theorem zgU {x y : List Int} (hx : Nm x) (hy : Nm y) (hb : x.length < 4611686018427387904) : Ev (fun k => zah.f k x y) (zM (V x) (V y)) := by
 unfold zah.f
 by_cases e : x.length = y.length
 ·(repeat (first | with_reducible refine ep ?_ | with_reducible refine en ?_))
  rw [zcP (by omega)]
  have := zeH hx.dg hy.dg hb x.length (by omega) (by omega)
  rwa [List.take_length, e, List.take_length, ← e] at this
 ·(repeat (first | with_reducible refine ep ?_ | with_reducible refine en ?_))
  by_cases c : x.length < y.length
  ·(repeat (first | with_reducible refine ep ?_ | with_reducible refine en ?_))
   unfold zM; rw [if_pos (hx.lt_of_len hy c)]; exact Ev.now _
  ·(repeat (first | with_reducible refine ep ?_ | with_reducible refine en ?_))
   have := hy.lt_of_len hx (by omega)
   unfold zM; rw [if_neg (by omega), if_pos this]; exact Ev.now _
theorem zgu {a b : List Int} (ha : Nm a) (hb : Nm b) (la : a.length ≤ 4096) (lb : b.length ≤ 4096) : Ev (fun k => za2.f k a b) (zM (V a) (V b), 0) := by
 unfold za2.f
 refine Ev.bind (zcr ha.dg hb.dg (by omega) (by omega)) ?_
 have h1 : may a = true := zak.2 ⟨la, ha⟩
 have h2 : may b = true := zak.2 ⟨lb, hb⟩
 refine zf (by simp [h1, h2]) (Ev.bind (zeu ha hb (by omega)) ?_)
 exact Ev.now _
theorem zcb (n : Nat) : n >>> 31 = n / 2147483648 := by rw [Nat.shiftRight_eq_div_pow]
theorem zc0 {n : Nat} (h : n < 4294967296) : n / 2147483648 = 0 ∨ n / 2147483648 = 1 := by omega
theorem zfK {x y d : Nat} (hx : x < 4294967296) (hy : y < 4294967296) (hd : d < 4294967296) :
  ((((4294967295 ^^^ x) &&& y) ||| ((4294967295 ^^^ (x ^^^ y)) &&& d)) / 2147483648 : Nat) =
   if x / 2147483648 = 0 then (if y / 2147483648 = 0 then d / 2147483648 else 1) else (if y / 2147483648 = 0 then 0 else d / 2147483648) := by
 rw [← zcb, ← zcb, ← zcb, ← zcb, Nat.shiftRight_or_distrib, Nat.shiftRight_and_distrib, Nat.shiftRight_and_distrib, Nat.shiftRight_xor_distrib, Nat.shiftRight_xor_distrib, Nat.shiftRight_xor_distrib]
 simp only [zcb]
 have e : 4294967295 / 2147483648 = 1 := by decide
 rw [e]
 rcases zc0 hx with h1 | h1 <;> rcases zc0 hy with h2 | h2 <;> rcases zc0 hd with h3 | h3 <;> rw [h1, h2, h3] <;> decide
theorem zhf {x y c : Int} (hx : 0 ≤ x ∧ x < 4294967296) (hy : 0 ≤ y ∧ y < 4294967296) (hc : 0 ≤ c ∧ c ≤ 1) : zba.f x y c = some ((x - y - c) % 4294967296, if x < y + c then 1 else 0) := by
 unfold zba.f
 have hd : ((x - y) % 4294967296 - c) % 4294967296 = (x - y - c) % 4294967296 := by omega
 rw [hd]
 obtain ⟨X, rfl⟩ := Int.eq_ofNat_of_zero_le hx.1
 obtain ⟨Y, rfl⟩ := Int.eq_ofNat_of_zero_le hy.1
 obtain ⟨Z, hZ⟩ := Int.eq_ofNat_of_zero_le (show 0 ≤ ((X : Int) - Y - c) % 4294967296 by omega)
 have hZl : Z < 4294967296 := by omega
 have h1 : 4294967295 ^^^ X < 4294967296 := Nat.xor_lt_two_pow (n := 32) (by omega) (by omega)
 have h2 : X ^^^ Y < 4294967296 := Nat.xor_lt_two_pow (n := 32) (by omega) (by omega)
 have h3 : 4294967295 ^^^ (X ^^^ Y) < 4294967296 := Nat.xor_lt_two_pow (n := 32) (by omega) (by omega)
 have h4 : (4294967295 ^^^ X) &&& Y < 4294967296 := Nat.and_lt_two_pow (n := 32) _ (by omega)
 have h5 : (4294967295 ^^^ (X ^^^ Y)) &&& Z < 4294967296 := Nat.and_lt_two_pow (n := 32) _ (by omega)
 have e : (4294967295 : Int) = ((4294967295 : Nat) : Int) := rfl
 rw [hZ, e, u32_xor_nat _ _ (by omega) (by omega), u32_and_nat _ _ h1 (by omega), u32_xor_nat _ _ (by omega) (by omega), u32_xor_nat _ _ (by omega) h2, u32_and_nat _ _ h3 hZl, u32_or_nat _ _ h4 h5]
 have b := zfK (x := X) (y := Y) (d := Z) (by omega) (by omega) hZl
 have : (((((4294967295 ^^^ X) &&& Y ||| (4294967295 ^^^ (X ^^^ Y)) &&& Z : Nat) : Int)) / 2147483648) = (((((4294967295 ^^^ X) &&& Y ||| (4294967295 ^^^ (X ^^^ Y)) &&& Z) / 2147483648 : Nat)) : Int) := by omega
 rw [this, b]
 congr 2
 by_cases c1 : X / 2147483648 = 0 <;> by_cases c2 : Y / 2147483648 = 0 <;> simp only [c1, c2, if_true, if_false] <;> by_cases c3 : (X : Int) < Y + c <;> simp only [c3, if_true, if_false] <;> omega
def zan : List Int → List Int → Int → List Int
 | [], _, _ => []
 | x :: a, b, c => ((x - b.headD 0 - c) % 4294967296) :: zan a b.tail (if x < b.headD 0 + c then 1 else 0)
theorem zeZ {a b : List Int} {c : Int} (ha : Dg a) (hb : Dg b) (hc : 0 ≤ c ∧ c ≤ 1) (hl : b.length ≤ a.length) (h : V b + c.toNat ≤ V a) : V (zan a b c) = V a - V b - c.toNat ∧ Dg (zan a b c) := by
 induction a generalizing b c with
 | nil =>
  have : b = [] := List.eq_nil_of_length_eq_zero (by simpa using hl)
  subst this
  exact ⟨by simp [zan], Dg.nil⟩
 | cons x a ih =>
  have hx := ha.head
  have hy := hb.headD
  rw [zbA b, zx] at h
  have := ih (b := b.tail) (c := if x < b.headD 0 + c then 1 else 0) ha.tail hb.tl (by split <;> omega) (by simp at hl ⊢; omega) (by split <;> omega)
  refine ⟨?_, Dg.cons (by omega) (by omega) this.2⟩
  rw [zan, zx, this.1, zbA b, zx]
  split <;> omega
theorem ze0 (A Bl : List Int) (hA : Dg A) (hB : Dg Bl) (hl : A.length < 1152921504606846976) : ∀ (a done r : List Int) (c : Int) (pa : List Int), A = pa ++ a → done.length = pa.length → r.length = a.length → 0 ≤ c ∧ c ≤ 1 → Dg done →
  Ev (fun k => zL.l0 k A Bl (done ++ r) c A.length done.length) (D (V (done ++ zan a (Bl.drop done.length) c)))
 | [], done, r, c, pa, he, hd, hr, hc, hg => by
  have : r = [] := List.eq_nil_of_length_eq_zero hr
  subst this
  have hlen : A.length = done.length := by rw [he, hd]; simp
  refine zg ?_
  simp only [zL.l0]
  (repeat (first | with_reducible refine ep ?_ | with_reducible refine en ?_))
  refine Ev.bind (zbP (hg.app Dg.nil) (by simp; omega)) ?_
  exact Ev.now _
 | x :: a, done, r, c, pa, he, hd, hr, hc, hg => by
  obtain ⟨y, r, rfl⟩ : ∃ y r', r = y :: r' := by
   match r, hr with
   | y :: r', _ => exact ⟨y, r', rfl⟩
  have hlen : A.length = done.length + 1 + a.length := by rw [he, hd]; simp; omega
  refine zg ?_
  simp only [zL.l0, zC (n := done.length) (by omega)]
  (repeat (first | with_reducible refine ep ?_ | with_reducible refine en ?_))
  have hx : rd A (done.length : Int) = x := by rw [he]; exact zab (by omega)
  have hxr : 0 ≤ x ∧ x < 4294967296 := by rw [he] at hA; exact hA.right.head
  have hyr := (hB.drop done.length).headD
  have key : ∀ z, z = (Bl.drop done.length).headD 0 → Ev (fun k => (zba.f x z c).bind fun bt => if (done.length : Int) < ((done ++ y :: r).length : Int) then zL.l0 k A Bl ((done ++ y :: r).set (done.length : Int).toNat bt.1) bt.2 A.length ((done.length + 1 : Nat) : Int) else none) (D (V (done ++ zan (x :: a) (Bl.drop done.length) c))) := by
   rintro z rfl
   refine zi (zhf hxr hyr hc) ?_
   (repeat (first | with_reducible refine ep ?_ | with_reducible refine en ?_))
   rw [zbu rfl]
   have := ze0 A Bl hA hB hl a (done ++ [(x - (Bl.drop done.length).headD 0 - c) % 4294967296]) r (if x < (Bl.drop done.length).headD 0 + c then 1 else 0) (pa ++ [x]) (by rw [he]; simp) (by simp [hd]) (by simpa using hr) (by split <;> omega) (hg.app (Dg.cons (by omega) (by omega) Dg.nil))
   rw [List.length_append, List.length_singleton] at this
   refine zh this ?_
   rw [zan, List.tail_drop]; simp
  have jn : ∀ z, z = (Bl.drop done.length).headD 0 → Ev (fun n => zL.j1 n A Bl (done ++ y :: r) c (done.length : Int) z A.length (done.length : Int)) (D (V (done ++ zan (x :: a) (Bl.drop done.length) c))) := by
   intro z hz
   refine zg ?_
   simp only [zL.j1, zC (n := done.length) (by omega)]
   (repeat (first | with_reducible refine ep ?_ | with_reducible refine en ?_))
   rw [hx]
   have h0 : (0 : Int) ≤ (done.length : Int) := by omega
   have := key z hz
   simp only [h0, if_true]
   exact this
  by_cases hb : (done.length : Int) < (Bl.length : Int)
  ·(repeat (first | with_reducible refine ep ?_ | with_reducible refine en ?_))
   exact jn _ (by rw [zb8, rdn])
  ·(repeat (first | with_reducible refine ep ?_ | with_reducible refine en ?_))
   exact jn 0 (by rw [List.drop_eq_nil_of_le (by omega)]; rfl)
theorem zgy {a b : List Int} (ha : Nm a) (hb : Nm b) (la : a.length ≤ 1000000) (h : V b ≤ V a) : Ev (fun k => zL.f k a b) (D (V a - V b)) := by
 unfold zL.f
 (repeat (first | with_reducible refine ep ?_ | with_reducible refine en ?_))
 have hl : b.length ≤ a.length := by rw [← ha.len, ← hb.len]; exact zbZ h
 have := ze0 a b ha.dg hb.dg (by omega) a [] (List.replicate a.length 0) 0 [] rfl rfl (by simp) (by omega) Dg.nil
 refine zh this ?_
 have h2 := zeZ ha.dg hb.dg (c := 0) (by omega) hl (by simpa using h)
 simp [h2.1]
def zbU (m n : Nat) : List Int × Int := if m < n then ([], 10) else (D (m - n), 0)
theorem zes {a b : List Int} (ha : Nm a) (hb : Nm b) (la : a.length ≤ 4096) (lb : b.length ≤ 4096) : Ev (fun k => zaN.f k a b) (zbU (V a) (V b)) := by
 unfold zaN.f zbU
 refine Ev.bind (zcr ha.dg hb.dg (by omega) (by omega)) ?_
 have h1 : may a = true := zak.2 ⟨la, ha⟩
 have h2 : may b = true := zak.2 ⟨lb, hb⟩
 refine zf (by simp [h1, h2]) (Ev.bind (zeu ha hb (by omega)) ?_)
 by_cases c : V a < V b
 ·rw [if_pos c]
  refine ze ?_ (Ev.now _)
  unfold zM; rw [if_pos c]; decide
 ·rw [if_neg c]
  refine zf ?_ (Ev.bind (zgy ha hb (by omega) (by omega)) (Ev.now _))
  unfold zM; rw [if_neg c]; split <;> decide
theorem zeG (A Bl : List Int) (hA : Dg A) (hB : Dg Bl) (hl : A.length < 1000000000) (hl2 : Bl.length < 1000000000) : ∀ (d : Nat) (done : List Int) (c : Int), done.length + d = max A.length Bl.length → 0 ≤ c ∧ c ≤ 1 → Dg done →
  V done + 4294967296 ^ done.length * (V (A.drop done.length) + V (Bl.drop done.length) + c.toNat) = V A + V Bl →
  Ev (fun k => zp.l0 k A Bl done c done.length) (D (V A + V Bl))
 | 0, done, c, hd, hc, hg, hv => by
  refine zg ?_
  simp only [zp.l0]
  (repeat (first | with_reducible refine ep ?_ | with_reducible refine en ?_))
  have e : c % 4294967296 = c := by omega
  rw [e]
  refine Ev.bind (zbR (hg.app (Dg.cons hc.1 (by omega) Dg.nil)) (by simp; omega)) ?_
  refine zh (Ev.now _) ?_
  rw [List.drop_eq_nil_of_le (by omega), List.drop_eq_nil_of_le (by omega)] at hv
  rw [zax, ← hv]; simp
 | d + 1, done, c, hd, hc, hg, hv => by
  have ha := hA.rd (done.length : Int)
  have hb := hB.rd (done.length : Int)
  have hx := zbA (A.drop done.length)
  have hy := zbA (Bl.drop done.length)
  rw [zb8, List.tail_drop] at hx hy
  have key : ∀ (s : Int), s = A.getD done.length 0 + Bl.getD done.length 0 + c → Ev (fun k => zp.l0 k A Bl (done ++ [s % 4294967296]) (s / 4294967296) ((done.length + 1 : Nat) : Int)) (D (V A + V Bl)) := by
   intro s hs
   have ha' := hA.getD done.length
   have hb' := hB.getD done.length
   have := zeG A Bl hA hB hl hl2 d (done ++ [s % 4294967296]) (s / 4294967296) (by simp; omega) (by omega) (hg.app (Dg.cons (by omega) (by omega) Dg.nil)) (by
    rw [zax, List.length_append, List.length_singleton, Nat.pow_succ, Nat.mul_assoc, Nat.add_assoc, ← Nat.mul_add, ← hv]
    congr 2
    simp only [zx, zap]
    omega)
   rwa [List.length_append, List.length_singleton] at this
  have hr : ∀ l : List Int, rd l (done.length : Int) = l.getD done.length 0 := fun l => rdn l _
  refine zg ?_
  simp only [zp.l0]
  by_cases c1 : done.length < A.length
  ·(repeat (first | with_reducible refine ep ?_ | with_reducible refine en ?_))
   refine zg ?_
   simp only [zp.j2]
   by_cases c2 : done.length < Bl.length
   ·(repeat (first | with_reducible refine ep ?_ | with_reducible refine en ?_))
    refine zg ?_
    simp only [zp.j3, zC (n := done.length) (by omega)]
    (repeat (first | with_reducible refine ep ?_ | with_reducible refine en ?_))
    rw [u64 ha.1 (by omega), u64 hb.1 (by omega), u64 (n := c + rd A (done.length : Int)) (by omega) (by omega), u64 (by omega) (by omega)]
    exact key _ (by rw [hr, hr]; omega)
   ·(repeat (first | with_reducible refine ep ?_ | with_reducible refine en ?_))
    refine zg ?_
    simp only [zp.j3, zC (n := done.length) (by omega)]
    (repeat (first | with_reducible refine ep ?_ | with_reducible refine en ?_))
    rw [u64 ha.1 (by omega), u64 (by omega) (by omega)]
    refine key _ ?_
    have : Bl.getD done.length 0 = 0 := by rw [List.getD_eq_getElem?_getD, List.getElem?_eq_none (by omega)]; rfl
    rw [hr, this]; omega
  ·(repeat (first | with_reducible refine ep ?_ | with_reducible refine en ?_))
   have c2 : done.length < Bl.length := by omega
   refine zg ?_
   simp only [zp.j2]
   (repeat (first | with_reducible refine ep ?_ | with_reducible refine en ?_))
   refine zg ?_
   simp only [zp.j3, zC (n := done.length) (by omega)]
   (repeat (first | with_reducible refine ep ?_ | with_reducible refine en ?_))
   rw [u64 hb.1 (by omega), u64 (by omega) (by omega)]
   refine key _ ?_
   have : A.getD done.length 0 = 0 := by rw [List.getD_eq_getElem?_getD, List.getElem?_eq_none (by omega)]; rfl
   rw [hr, this]; omega
theorem zgS {a b : List Int} (ha : Dg a) (hb : Dg b) (la : a.length < 1000000000) (lb : b.length < 1000000000) : Ev (fun k => zp.f k a b) (D (V a + V b)) := by
 unfold zp.f
 have := zeG a b ha hb la lb (max a.length b.length) [] 0 (by simp) (by omega) Dg.nil (by simp)
 simpa using this
theorem zeR (A Bl : List Int) (hA : Dg A) (hB : Dg Bl) (hl : A.length < 1000000000) : ∀ (d : Nat) (done : List Int) (c : Int), done.length + d = A.length → 0 ≤ c ∧ c ≤ 1 → Dg done →
  Ev (fun k => zq.l0 k A Bl done c done.length) (D (V (done ++ zan (A.drop done.length) (Bl.drop done.length) c)))
 | 0, done, c, hd, hc, hg => by
  refine zg ?_
  simp only [zq.l0]
  (repeat (first | with_reducible refine ep ?_ | with_reducible refine en ?_))
  rw [List.drop_eq_nil_of_le (show A.length ≤ done.length by omega)]
  simp only [zan, List.append_nil]
  refine Ev.bind (zbR hg (by omega)) ?_
  exact Ev.now _
 | d + 1, done, c, hd, hc, hg => by
  have ha := hA.rd (done.length : Int)
  have hb := hB.rd (done.length : Int)
  have hc1 : done.length < A.length := by omega
  have hx : A.drop done.length = A.getD done.length 0 :: A.drop (done.length + 1) := by
   rw [List.drop_eq_getElem_cons hc1]; simp [hc1]
  have key : ∀ (s z : Int), z = Bl.getD done.length 0 → s % 4294967296 = (A.getD done.length 0 - z - c) % 4294967296 → ∀ c', c' = (if A.getD done.length 0 < z + c then 1 else 0) → Ev (fun k => zq.l0 k A Bl (done ++ [s % 4294967296]) c' ((done.length + 1 : Nat) : Int)) (D (V (done ++ zan (A.drop done.length) (Bl.drop done.length) c))) := by
   rintro s z rfl hs c' rfl
   have := zeR A Bl hA hB hl d (done ++ [s % 4294967296]) (if A.getD done.length 0 < Bl.getD done.length 0 + c then 1 else 0) (by simp; omega) (by split <;> omega) (hg.app (Dg.cons (by omega) (by omega) Dg.nil))
   rw [List.length_append, List.length_singleton] at this
   refine zh this ?_
   rw [hx, zan, zb8, List.tail_drop, hs]; simp
  have hr : ∀ l : List Int, rd l (done.length : Int) = l.getD done.length 0 := fun l => rdn l _
  refine zg ?_
  simp only [zq.l0, zC (n := done.length) (by omega)]
  (repeat (first | with_reducible refine ep ?_ | with_reducible refine en ?_))
  rw [hr] at ha hb
  by_cases c2 : done.length < Bl.length
  ·(repeat (first | with_reducible refine ep ?_ | with_reducible refine en ?_))
   refine zg ?_
   simp only [zq.j1]
   (repeat (first | with_reducible refine ep ?_ | with_reducible refine en ?_))
   rw [hr, hr, u64 ha.1 (by omega), u64 hb.1 (by omega), u64 (n := c + Bl.getD done.length 0) (by omega) (by omega)]
   by_cases c3 : A.getD done.length 0 < c + Bl.getD done.length 0
   ·(repeat (first | with_reducible refine ep ?_ | with_reducible refine en ?_))
    rw [u64 (n := A.getD done.length 0 + 4294967296) (by omega) (by omega)]
    refine zg ?_
    simp only [zq.j2, zC (n := done.length) (by omega)]
    (repeat (first | with_reducible refine ep ?_ | with_reducible refine en ?_))
    rw [u64 (by omega) (by omega)]
    exact key _ (Bl.getD done.length 0) rfl (by omega) 1 (by rw [if_pos (by omega)])
   ·(repeat (first | with_reducible refine ep ?_ | with_reducible refine en ?_))
    refine zg ?_
    simp only [zq.j2, zC (n := done.length) (by omega)]
    (repeat (first | with_reducible refine ep ?_ | with_reducible refine en ?_))
    rw [u64 (by omega) (by omega)]
    exact key _ (Bl.getD done.length 0) rfl (by omega) 0 (by rw [if_neg (by omega)])
  ·(repeat (first | with_reducible refine ep ?_ | with_reducible refine en ?_))
   have hz : Bl.getD done.length 0 = 0 := by rw [List.getD_eq_getElem?_getD, List.getElem?_eq_none (by omega)]; rfl
   refine zg ?_
   simp only [zq.j1]
   (repeat (first | with_reducible refine ep ?_ | with_reducible refine en ?_))
   rw [hr, u64 ha.1 (by omega)]
   by_cases c3 : A.getD done.length 0 < c
   ·(repeat (first | with_reducible refine ep ?_ | with_reducible refine en ?_))
    rw [u64 (n := A.getD done.length 0 + 4294967296) (by omega) (by omega)]
    refine zg ?_
    simp only [zq.j2, zC (n := done.length) (by omega)]
    (repeat (first | with_reducible refine ep ?_ | with_reducible refine en ?_))
    rw [u64 (by omega) (by omega)]
    exact key _ (Bl.getD done.length 0) rfl (by omega) 1 (by rw [if_pos (by omega)])
   ·(repeat (first | with_reducible refine ep ?_ | with_reducible refine en ?_))
    refine zg ?_
    simp only [zq.j2, zC (n := done.length) (by omega)]
    (repeat (first | with_reducible refine ep ?_ | with_reducible refine en ?_))
    rw [u64 (by omega) (by omega)]
    exact key _ (Bl.getD done.length 0) rfl (by omega) 0 (by rw [if_neg (by omega)])
theorem zeM {a b : List Int} (ha : Nm a) (hb : Nm b) (la : a.length < 1000000000) (h : V b ≤ V a) : Ev (fun k => zq.f k a b) (D (V a - V b)) := by
 unfold zq.f
 have hl : b.length ≤ a.length := by rw [← ha.len, ← hb.len]; exact zbZ h
 have := zeR a b ha.dg hb.dg la a.length [] 0 (by simp) (by omega) Dg.nil
 refine zh this ?_
 have h2 := zeZ ha.dg hb.dg (c := 0) (by omega) hl (by simpa using h)
 simp [h2.1]
theorem zcI {x y : Int} (hx : 0 ≤ x ∧ x < 4294967296) (hy : 0 ≤ y ∧ y < 4294967296) : 0 ≤ x * y ∧ x * y ≤ 18446744065119617025 := by
 constructor
 ·exact Int.mul_nonneg hx.1 hy.1
 ·have h1 : x * y ≤ 4294967295 * y := Int.mul_le_mul_of_nonneg_right (by omega) hy.1
  have h2 : 4294967295 * y ≤ 4294967295 * 4294967295 := Int.mul_le_mul_of_nonneg_left (by omega) (by omega)
  omega
def zI : Int → List Int → List Int → Int → List Int
 | _, [], o, c => c :: o.tail
 | x, y :: b, o, c => ((x * y + o.headD 0 + c) % 4294967296) :: zI x b o.tail ((x * y + o.headD 0 + c) / 4294967296)
theorem zdq {x y : Int} (hx : 0 ≤ x) (hy : 0 ≤ y) : (x * y).toNat = x.toNat * y.toNat := Int.toNat_mul hx hy
theorem zdk {x : Int} (hx : 0 ≤ x ∧ x < 4294967296) : ∀ (b o : List Int) (c : Int) (m : Nat), Dg b → Dg o → 0 ≤ c ∧ c < 4294967296 → o.drop b.length = List.replicate (m + 1) 0 →
  V (zI x b o c) = V o + x.toNat * V b + c.toNat ∧ Dg (zI x b o c) ∧ (zI x b o c).tail.drop b.length = List.replicate m 0 ∧ (zI x b o c).length = o.length
 | [], o, c, m, hb, ho, hc, hz => by
  have hz' : o = 0 :: List.replicate m 0 := by simpa [List.replicate_succ] using hz
  subst hz'
  refine ⟨?_, ?_, ?_, ?_⟩
  ·simp [zI, zcY]
  ·exact Dg.cons hc.1 hc.2 (Dg.zeros m)
  ·simp [zI]
  ·simp [zI]
 | y :: b, o, c, m, hb, ho, hc, hz => by
  obtain ⟨o0, o, rfl⟩ : ∃ o0 o', o = o0 :: o' := by
   cases o with
   | nil => simp at hz
   | cons o0 o' => exact ⟨o0, o', rfl⟩
  have hy := hb.head
  have h0 := ho.head
  have hp := zcI hx hy
  have hz2 : o.drop b.length = List.replicate (m + 1) 0 := by simpa using hz
  have := zdk hx b o ((x * y + o0 + c) / 4294967296) m hb.tail ho.tail (by omega) hz2
  simp only [zI, List.headD_cons, List.tail_cons]
  refine ⟨?_, Dg.cons (by omega) (by omega) this.2.1, ?_, by simp [this.2.2.2]⟩
  ·have e1 : x.toNat * (y.toNat + 4294967296 * V b) = (x * y).toNat + 4294967296 * (x.toNat * V b) := by
    rw [Nat.mul_add, Nat.mul_left_comm, zdq hx.1 hy.1]
   rw [zx, this.1, zx, zx, e1]
   omega
  ·obtain ⟨r0, r, hr⟩ : ∃ r0 r', zI x b o ((x * y + o0 + c) / 4294967296) = r0 :: r' := by
    cases h : zI x b o ((x * y + o0 + c) / 4294967296) with
    | nil =>
     have hl := this.2.2.2
     rw [h] at hl
     have : o = [] := List.eq_nil_of_length_eq_zero (by simpa using hl.symm)
     subst this; simp at hz2
    | cons r0 r' => exact ⟨r0, r', rfl⟩
   have h3 := this.2.2.1
   rw [hr] at h3 ⊢
   simpa using h3
def zaM : List Int → List Int → List Int → List Int
 | [], _, o => o
 | x :: a, b, o => (zI x b o 0).headD 0 :: zaM a b (zI x b o 0).tail
theorem zem : ∀ (a b o : List Int), Dg a → Dg b → Dg o → o.drop b.length = List.replicate a.length 0 → V (zaM a b o) = V o + V a * V b ∧ Dg (zaM a b o) ∧ (zaM a b o).length = o.length
 | [], b, o, ha, hb, ho, hz => by simp [zaM, ho]
 | x :: a, b, o, ha, hb, ho, hz => by
  have hr := zdk ha.head b o 0 a.length hb ho (by omega) (by simpa using hz)
  obtain ⟨r0, r, he⟩ : ∃ r0 r', zI x b o 0 = r0 :: r' := by
   cases h : zI x b o 0 with
   | nil =>
    have hl := hr.2.2.2
    rw [h] at hl
    have : o = [] := List.eq_nil_of_length_eq_zero (by simpa using hl.symm)
    subst this; simp at hz
   | cons r0 r' => exact ⟨r0, r', rfl⟩
  rw [he] at hr
  have := zem a b r ha.tail hb hr.2.1.tail (by simpa using hr.2.2.1)
  simp only [zaM, he, List.headD_cons, List.tail_cons]
  refine ⟨?_, Dg.cons hr.2.1.head.1 hr.2.1.head.2 this.2.1, ?_⟩
  ·have h1 := hr.1
   rw [zx] at h1
   rw [zx, this.1, zx, Nat.add_mul, Nat.mul_add, Nat.mul_assoc]
   simp at h1
   omega
  ·have := hr.2.2.2
   simp at this ⊢; omega
theorem zcT {l : List Int} (h : Nm l) (h0 : l ≠ []) : 4294967296 ^ (l.length - 1) ≤ V l := by
 have h1 : V l ≠ 0 := fun e => h0 ((zb1 h).1 e)
 have := zfn h1
 rwa [h.len] at this
def conv : List Int → List Int → Nat → Nat
 | [], _, _ => 0
 | x :: _, b, 0 => x.toNat * (b.getD 0 0).toNat
 | x :: a, b, k + 1 => x.toNat * (b.getD (k + 1) 0).toNat + conv a b k
def zas (a b : List Int) : Nat → Nat
 | 0 => 0
 | n + 1 => zas a b n + 4294967296 ^ n * conv a b n
theorem zdG (l : List Int) (n : Nat) : V (l.take (n + 1)) = V (l.take n) + 4294967296 ^ n * (l.getD n 0).toNat := by
 by_cases h : n < l.length
 ·exact zcX h
 ·have e : l.getD n 0 = 0 := by rw [List.getD_eq_getElem?_getD, List.getElem?_eq_none (by omega)]; rfl
  rw [List.take_of_length_le (by omega), List.take_of_length_le (by omega), e]; simp
theorem zfN (b : List Int) (n : Nat) : zas [] b n = 0 := by
 induction n with
 | zero => rfl
 | succ n ih => simp [zas, ih, conv]
theorem zfM (x : Int) (a b : List Int) (n : Nat) : zas (x :: a) b (n + 1) = x.toNat * V (b.take (n + 1)) + 4294967296 * zas a b n := by
 induction n with
 | zero =>
  have := zdG b 0
  simp at this
  simp [zas, conv, this]
 | succ n ih =>
  have e := zdG b (n + 1)
  rw [zas, ih, conv, e, zas, Nat.pow_succ]
  grind
theorem zfL (a b : List Int) (n : Nat) (h : a.length + b.length ≤ n) : zas a b n = V a * V b := by
 induction a generalizing n with
 | nil => simp [zfN]
 | cons x a ih =>
  cases n with
  | zero => simp at h
  | succ n =>
   rw [zfM, ih n (by simp at h; omega), List.take_of_length_le (by simp at h; omega), zx, Nat.add_mul, Nat.mul_assoc]
theorem zfP {a b : List Int} (ha : Dg a) (hb : Dg b) (k : Nat) : conv a b k ≤ a.length * 18446744065119617025 := by
 induction a generalizing k with
 | nil => simp [conv]
 | cons x a ih =>
  have hx := ha.head
  have key : ∀ j, x.toNat * (b.getD j 0).toNat ≤ 18446744065119617025 := by
   intro j
   have hy := hb.getD j
   have hp := zcI hx hy
   rw [← zdq hx.1 hy.1]; omega
  cases k with
  | zero => rw [conv]; have := key 0; simp only [List.length_cons]; omega
  | succ k => rw [conv]; have := key (k + 1); have := ih ha.tail k; simp only [List.length_cons]; omega
theorem zfO {a b : List Int} {k : Nat} (h : b.length ≤ k) (hk : 0 < k) : conv a b k = conv (a.drop 1) b (k - 1) := by
 cases a with
 | nil => simp [conv]
 | cons x a =>
  obtain ⟨k, rfl⟩ : ∃ m, k = m + 1 := ⟨k - 1, by omega⟩
  have e : b.getD (k + 1) 0 = 0 := by rw [List.getD_eq_getElem?_getD, List.getElem?_eq_none (by omega)]; rfl
  rw [conv, e]; simp
theorem zd2 (a b : List Int) (k : Nat) : ∀ n, n + b.length ≤ k + 1 → n ≤ k → conv a b k = conv (a.drop n) b (k - n)
 | 0, _, _ => by simp
 | n + 1, h, hk => by
  rw [zd2 a b k n (by omega) (by omega), zfO (by omega) (by omega), List.drop_drop]
  rw [Nat.sub_sub]
theorem zgC {x y : Int} (h0 : 0 ≤ x ∧ x < 4294967296) (h1 : 0 ≤ y) : Go.bits .or .u64 x (IntKind.u64.wrap (y * 4294967296)) = x + (y % 4294967296) * 4294967296 := by
 rw [za7]
 obtain ⟨X, rfl⟩ := Int.eq_ofNat_of_zero_le h0.1
 obtain ⟨Y, rfl⟩ := Int.eq_ofNat_of_zero_le h1
 have e : (Y : Int) * 4294967296 % 18446744073709551616 = ((2 ^ 32 * (Y % 4294967296) : Nat) : Int) := by omega
 rw [e, u64_or_nat _ _ (by omega) (by omega), Nat.or_comm, ← Nat.two_pow_add_eq_or_of_lt (by omega)]
 omega
theorem zdj (A Bl : List Int) (hA : Dg A) (hB : Dg Bl) (hl : A.length < 1000000000) (hlb : Bl.length < 1000000000) (out : List Int) (k : Nat) (hk : k < A.length + Bl.length) (hout : out.length < 1000000000) (T : Nat) (hT : T < 79228162514264337593543950336000) (res : List Int)
  (H : Ev (fun q => zo.l0 q A Bl (out ++ [((T % 4294967296 : Nat) : Int)]) (((T / 4294967296) % 18446744073709551616 : Nat) : Int) (((T / 4294967296) / 18446744073709551616 : Nat) : Int) ((k + 1 : Nat) : Int)) res) :
  ∀ (d i : Nat) (low high : Int), i + d = k + 1 → 0 ≤ low ∧ low < 18446744073709551616 → 0 ≤ high → k < i + Bl.length → low.toNat + 18446744073709551616 * high.toNat + (if i ≤ k then conv (A.drop i) Bl (k - i) else 0) = T →
  Ev (fun q => zo.l1 q A Bl out low high k i) res
 | d, i, low, high, hd, hlow, hhigh, hi, he => by
  have fin : low.toNat + 18446744073709551616 * high.toNat = T → Ev (fun q => if out.length + ([low % 4294967296] : List Int).length < 35184372088832 then zo.l0 q A Bl (out ++ [low % 4294967296]) (Go.bits .or .u64 (low / 4294967296) (IntKind.u64.wrap (high * 4294967296))) (high / 4294967296) ((k + 1 : Nat) : Int) else none) res := by
   intro e
   (repeat (first | with_reducible refine ep ?_ | with_reducible refine en ?_))
   rw [zgC (by omega) hhigh]
   have e1 : low % 4294967296 = ((T % 4294967296 : Nat) : Int) := by omega
   have e2 : low / 4294967296 + high % 4294967296 * 4294967296 = (((T / 4294967296) % 18446744073709551616 : Nat) : Int) := by omega
   have e3 : high / 4294967296 = (((T / 4294967296) / 18446744073709551616 : Nat) : Int) := by omega
   rw [e1, e2, e3]; exact H
  refine zg ?_
  have e : wrap64 ((k : Int) - (i : Int)) = (k : Int) - (i : Int) := by unfold wrap64; omega
  simp only [zo.l1, e, zC (n := i) (by omega), zC (n := k) (by omega)]
  clear e
  by_cases c1 : i ≤ k
  ·rw [if_pos c1] at he
   by_cases c2 : i < A.length
   ·have hx : A.drop i = A.getD i 0 :: A.drop (i + 1) := by rw [List.drop_eq_getElem_cons c2]; simp [c2]
    have ha := hA.getD i
    have hb := hB.getD (k - i)
    have hp := zcI ha hb
    have hpN := zdq ha.1 hb.1
    have e : (k : Int) - (i : Int) = ((k - i : Nat) : Int) := by omega
    (repeat (first | with_reducible refine ep ?_ | with_reducible refine en ?_))
    rw [e]
    rw [rdn, rdn, u64 ha.1 (by omega), u64 hb.1 (by omega), u64 hp.1 (by omega)]
    generalize hP : A.getD i 0 * Bl.getD (k - i) 0 = P at *
    have hc : conv (A.drop i) Bl (k - i) = P.toNat + (if i + 1 ≤ k then conv (A.drop (i + 1)) Bl (k - (i + 1)) else 0) := by
     rw [hx, hpN]
     by_cases c3 : i + 1 ≤ k
     ·rw [if_pos c3, show k - i = (k - (i + 1)) + 1 by omega, conv]
     ·rw [if_neg c3, show k - i = 0 by omega, conv]; simp
    rw [hc] at he
    obtain ⟨d, rfl⟩ : ∃ m, d = m + 1 := ⟨d - 1, by omega⟩
    by_cases c4 : low + P < 18446744073709551616
    ·rw [u64 (n := low + P) (by omega) (by omega)]
     (repeat (first | with_reducible refine ep ?_ | with_reducible refine en ?_))
     exact zdj A Bl hA hB hl hlb out k hk hout T hT res H d (i + 1) (low + P) high (by omega) (by omega) hhigh (by omega) (by omega)
    ·have e5 : IntKind.u64.wrap (low + P) = low + P - 18446744073709551616 := by rw [za7]; omega
     rw [e5]
     (repeat (first | with_reducible refine ep ?_ | with_reducible refine en ?_))
     rw [u64 (n := high + 1) (by omega) (by omega)]
     exact zdj A Bl hA hB hl hlb out k hk hout T hT res H d (i + 1) (low + P - 18446744073709551616) (high + 1) (by omega) (by omega) (by omega) (by omega) (by omega)
   ·refine ze (by omega) (zf (by omega) (fin ?_))
    rw [List.drop_eq_nil_of_le (by omega), conv] at he
    omega
  ·rw [if_neg c1] at he
   exact zf (by omega) (fin (by omega))
theorem zeO (A Bl : List Int) (hA : Dg A) (hB : Dg Bl) (hl : A.length < 100000000) (hlb : Bl.length < 100000000) (hb0 : 0 < Bl.length) : ∀ (d : Nat) (out : List Int) (T : Nat), out.length + d = A.length + Bl.length → Dg out → T < 79228162514264337593543950336 → V out + 4294967296 ^ out.length * T = zas A Bl out.length →
  Ev (fun q => zo.l0 q A Bl out ((T % 18446744073709551616 : Nat) : Int) ((T / 18446744073709551616 : Nat) : Int) out.length) (D (V A * V Bl))
 | 0, out, T, hd, hg, hT, hv => by
  refine zg ?_
  have e : wrap64 ((A.length : Int) + (Bl.length : Int)) = ((A.length + Bl.length : Nat) : Int) := by unfold wrap64; omega
  simp only [zo.l0, e]
  clear e
  refine zf (by omega) (Ev.bind (zbR hg (by omega)) (zh (Ev.now _) ?_))
  rw [zfL A Bl _ (by omega)] at hv
  have h1 := zaQ hA
  have h2 := zaQ hB
  have h3 : V A * V Bl < 4294967296 ^ out.length := by
   rw [show out.length = A.length + Bl.length by omega, Nat.pow_add]
   exact Nat.mul_lt_mul'' h1 h2
  have h4 : T = 0 := by
   rcases Nat.eq_zero_or_pos T with h | h
   ·exact h
   ·have := Nat.mul_le_mul_left (4294967296 ^ out.length) h
    omega
  subst h4
  rw [← hv]; simp
 | d + 1, out, T, hd, hg, hT, hv => by
  refine zg ?_
  have e : wrap64 ((A.length : Int) + (Bl.length : Int)) = ((A.length + Bl.length : Nat) : Int) := by unfold wrap64; omega
  simp only [zo.l0, e]
  clear e
  have hcl := zfP hA hB out.length
  have hcl2 : A.length * 18446744065119617025 ≤ 100000000 * 18446744065119617025 := Nat.mul_le_mul_right _ (by omega)
  have next : Ev (fun q => zo.l0 q A Bl (out ++ [(((T + conv A Bl out.length) % 4294967296 : Nat) : Int)]) ((((T + conv A Bl out.length) / 4294967296) % 18446744073709551616 : Nat) : Int) ((((T + conv A Bl out.length) / 4294967296) / 18446744073709551616 : Nat) : Int) ((out.length + 1 : Nat) : Int)) (D (V A * V Bl)) := by
   have := zeO A Bl hA hB hl hlb hb0 d (out ++ [(((T + conv A Bl out.length) % 4294967296 : Nat) : Int)]) ((T + conv A Bl out.length) / 4294967296) (by simp; omega) (hg.app (Dg.cons (by omega) (by omega) Dg.nil)) (by omega) (by
    rw [zax, List.length_append, List.length_singleton, zas, ← hv, Nat.pow_succ, Nat.mul_assoc, Nat.add_assoc, ← Nat.mul_add, Nat.add_assoc, ← Nat.mul_add]
    congr 2
    simp only [zx, zap]
    omega)
   rwa [List.length_append, List.length_singleton] at this
  (repeat (first | with_reducible refine ep ?_ | with_reducible refine en ?_))
  have j2 : ∀ (i : Nat), i ≤ out.length → out.length < i + Bl.length → conv A Bl out.length = conv (A.drop i) Bl (out.length - i) → Ev (fun q => zo.j3 q A Bl out ((T % 18446744073709551616 : Nat) : Int) ((T / 18446744073709551616 : Nat) : Int) out.length i) (D (V A * V Bl)) := by
   intro i h1 h2 h3
   refine zg ?_
   simp only [zo.j3]
   exact zdj A Bl hA hB (by omega) (by omega) out out.length (by omega) (by omega) (T + conv A Bl out.length) (by omega) _ next (out.length + 1 - i) i _ _ (by omega) (by omega) (by omega) h2 (by rw [if_pos h1, ← h3]; omega)
  by_cases c1 : out.length ≥ Bl.length
  ·(repeat (first | with_reducible refine ep ?_ | with_reducible refine en ?_))
   have c2 := hb0
   ·have e : wrap64 (wrap64 ((out.length : Int) - (Bl.length : Int)) + 1) = ((out.length + 1 - Bl.length : Nat) : Int) := by unfold wrap64; omega
    rw [e]
    clear e
    exact j2 _ (by omega) (by omega) (zd2 A Bl out.length _ (by omega) (by omega))
  ·(repeat (first | with_reducible refine ep ?_ | with_reducible refine en ?_)); exact j2 0 (by omega) (by omega) (by simp)
theorem zgX {a b : List Int} (ha : Dg a) (hb : Dg b) (la : a.length < 100000000) (lb : b.length < 100000000) : Ev (fun k => zo.f k a b) (D (V a * V b)) := by
 unfold zo.f
 by_cases c1 : a.length = 0
 ·(repeat (first | with_reducible refine ep ?_ | with_reducible refine en ?_))
  have : a = [] := List.eq_nil_of_length_eq_zero c1
  subst this
  refine zh (Ev.now _) ?_
  simp [zJ]
 ·(repeat (first | with_reducible refine ep ?_ | with_reducible refine en ?_))
  by_cases c2 : b.length = 0
  ·(repeat (first | with_reducible refine ep ?_ | with_reducible refine en ?_))
   have : b = [] := List.eq_nil_of_length_eq_zero c2
   subst this
   refine zh (Ev.now _) ?_
   simp [zJ]
  ·(repeat (first | with_reducible refine ep ?_ | with_reducible refine en ?_))
   have := zeO a b ha hb la lb (by omega) (a.length + b.length) [] 0 (by simp) Dg.nil (by omega) (by simp [zas])
   simpa using this
def bl (n : Nat) : Nat := if n = 0 then 0 else n.log2 + 1
theorem zct : bl 0 = 0 := rfl
theorem zdT {n : Nat} (h : n ≠ 0) : 2 ^ (bl n - 1) ≤ n := by
 unfold bl; rw [if_neg h]; exact Nat.log2_self_le h
theorem zaD (n : Nat) : n < 2 ^ bl n := by
 unfold bl
 split
 ·subst n; simp
 ·exact Nat.lt_log2_self
theorem zdV {n : Nat} (h : n ≠ 0) : 0 < bl n := by unfold bl; rw [if_neg h]; omega
theorem zaq {n k : Nat} (h : n < 2 ^ k) : bl n ≤ k := by
 by_cases e : n = 0
 ·subst e; simp [zct]
 ·have h1 := zdT e
  have h2 := zdV e
  have : bl n - 1 < k := (Nat.pow_lt_pow_iff_right (a := 2) (by omega)).1 (Nat.lt_of_le_of_lt h1 h)
  omega
theorem zfG {n k : Nat} (h1 : 2 ^ k ≤ n) (h2 : n < 2 ^ (k + 1)) : bl n = k + 1 := by
 have := zaq h2
 have h3 : 2 ^ k < 2 ^ bl n := Nat.lt_of_le_of_lt h1 (zaD n)
 have := (Nat.pow_lt_pow_iff_right (a := 2) (by omega)).1 h3
 omega
theorem zb3 {n k : Nat} (h : 2 ^ k ≤ n) : bl n = k + bl (n / 2 ^ k) := by
 have hp : 0 < 2 ^ k := Nat.pow_pos (by omega)
 have h0 : n / 2 ^ k ≠ 0 := by
  have := (Nat.le_div_iff_mul_le hp (x := 1) (y := n)).2 (by omega)
  omega
 have h1 := zdT h0
 have h2 := zaD (n / 2 ^ k)
 have h3 := zdV h0
 have e : k + bl (n / 2 ^ k) = (k + (bl (n / 2 ^ k) - 1)) + 1 := by omega
 rw [e]
 apply zfG
 ·rw [Nat.pow_add]
  have := (Nat.le_div_iff_mul_le hp).1 h1
  rw [Nat.mul_comm]; exact this
 ·have := (Nat.div_lt_iff_lt_mul hp).1 h2
  rw [show k + (bl (n / 2 ^ k) - 1) + 1 = bl (n / 2 ^ k) + k by omega, Nat.pow_add]
  exact this
theorem zfF {n : Nat} (h : n ≠ 0) : bl n = bl (n / 2) + 1 := by
 by_cases h1 : n = 1
 ·subst h1; rfl
 ·have := zb3 (n := n) (k := 1) (by omega)
  simp at this; omega
theorem zcs {a b : Nat} (h : a ≤ b) : bl a ≤ bl b := zaq (Nat.lt_of_le_of_lt h (zaD b))
def ze4 : ByteArray := ⟨#[0, 1, 2, 2, 3, 3, 3, 3, 4, 4, 4, 4, 4, 4, 4, 4, 5, 5, 5, 5, 5, 5, 5, 5, 5, 5, 5, 5, 5, 5, 5, 5, 6, 6, 6, 6, 6, 6, 6, 6, 6, 6, 6, 6, 6, 6, 6, 6, 6, 6, 6, 6, 6, 6, 6, 6, 6, 6, 6, 6, 6, 6, 6, 6, 7, 7, 7, 7, 7, 7, 7, 7, 7, 7, 7, 7, 7, 7, 7, 7, 7, 7, 7, 7, 7, 7, 7, 7, 7, 7, 7, 7, 7, 7, 7, 7, 7, 7, 7, 7, 7, 7, 7, 7, 7, 7, 7, 7, 7, 7, 7, 7, 7, 7, 7, 7, 7, 7, 7, 7, 7, 7, 7, 7, 7, 7, 7, 7, 8, 8, 8, 8, 8, 8, 8, 8, 8, 8, 8, 8, 8, 8, 8, 8, 8, 8, 8, 8, 8, 8, 8, 8, 8, 8, 8, 8, 8, 8, 8, 8, 8, 8, 8, 8, 8, 8, 8, 8, 8, 8, 8, 8, 8, 8, 8, 8, 8, 8, 8, 8, 8, 8, 8, 8, 8, 8, 8, 8, 8, 8, 8, 8, 8, 8, 8, 8, 8, 8, 8, 8, 8, 8, 8, 8, 8, 8, 8, 8, 8, 8, 8, 8, 8, 8, 8, 8, 8, 8, 8, 8, 8, 8, 8, 8, 8, 8, 8, 8, 8, 8, 8, 8, 8, 8, 8, 8, 8, 8, 8, 8, 8, 8, 8, 8, 8, 8, 8, 8, 8, 8, 8, 8, 8, 8, 8, 8]⟩
theorem zhi : (List.range 256).all (fun i => bt ze4 (i : Int) == (bl i : Int)) = true := by decide +kernel
theorem bt8 {t : ByteArray} {n : Nat} (h : n < 256) (ht : t = ze4) : bt t (n : Int) = (bl n : Int) := by
 subst ht
 have := List.all_eq_true.1 zhi n (List.mem_range.2 h)
 exact eq_of_beq this
theorem zfE {n : Nat} (h : n < 256) : bl n ≤ 8 := zaq h
theorem zge : zdr.size = 256 := by decide +kernel
theorem zei {n : Nat} (h : n < 256) {m : Int} (hm : 0 ≤ m ∧ m ≤ 64) : Ev (fun k => zR.j1 k (n : Int) m) (m + (bl n : Nat)) := by
 refine zg ?_
 simp only [zR.j1]
 have e : (n : Int) % 256 = n := by omega
 have l := zfE h
 rw [e, zge]
 (repeat (first | with_reducible refine ep ?_ | with_reducible refine en ?_))
 rw [bt8 h (by rfl), zaw (n := ((bl n : Nat) : Int)) (by omega) (by omega), zaw (by omega) (by omega)]
 exact Ev.now _
theorem zeh {n : Nat} (h : n < 65536) {m : Int} (hm : 0 ≤ m ∧ m ≤ 32) : Ev (fun k => zR.j0 k (n : Int) m) (m + (bl n : Nat)) := by
 refine zg ?_
 simp only [zR.j0]
 by_cases c : n ≥ 256
 ·(repeat (first | with_reducible refine ep ?_ | with_reducible refine en ?_))
  have e2 : bl n = 8 + bl (n / 256) := zb3 (k := 8) c
  have := zei (n := n / 256) (by omega) (m := m + 8) (by omega)
  rw [zaw (by omega) (by omega), show (n : Int) / 256 = ((n / 256 : Nat) : Int) by omega]
  exact zh this (by rw [e2]; omega)
 ·(repeat (first | with_reducible refine ep ?_ | with_reducible refine en ?_))
  exact zei (by omega) (by omega)
theorem zgd {x : Int} (h : 0 ≤ x ∧ x < 4294967296) : Ev (fun k => zR.f k x) ((bl x.toNat : Nat) : Int) := by
 obtain ⟨n, rfl⟩ := Int.eq_ofNat_of_zero_le h.1
 unfold zR.f
 rw [Int.toNat_natCast]
 by_cases c : n ≥ 65536
 ·(repeat (first | with_reducible refine ep ?_ | with_reducible refine en ?_))
  have e1 : bl n = 16 + bl (n / 65536) := zb3 (k := 16) c
  rw [show (n : Int) / 65536 = ((n / 65536 : Nat) : Int) by omega]
  exact zh (zeh (by omega) (by omega)) (by rw [e1]; omega)
 ·(repeat (first | with_reducible refine ep ?_ | with_reducible refine en ?_))
  exact zh (zeh (by omega) (by omega)) (by omega)
theorem zg3 : ∀ (n : Nat) (m : Int), 0 ≤ m ∧ m + (bl n : Nat) < 4611686018427387904 → n < 4294967296 → Ev (fun k => zat.l0 k m n) (m + (bl n : Nat)) := by
 intro n
 induction n using Nat.strongRecOn with
 | _ n ih =>
  intro m hm hn
  refine zg ?_
  simp only [zat.l0]
  by_cases c : n = 0
  ·subst c
   (repeat (first | with_reducible refine ep ?_ | with_reducible refine en ?_))
   exact zh (Ev.now _) (by simp [zct])
  ·(repeat (first | with_reducible refine ep ?_ | with_reducible refine en ?_))
   have e : (n : Int) / 2 = ((n / 2 : Nat) : Int) := by omega
   have hb := zfF c
   rw [e, zaw (by omega) (by omega)]
   refine zh (ih (n / 2) (by omega) (m + 1) (by omega) (by omega)) ?_
   omega
theorem zdP {l : List Int} (h : Nm l) (h0 : l ≠ []) : bl (V l) = 32 * (l.length - 1) + bl (l.getD (l.length - 1) 0).toNat := by
 rcases List.eq_nil_or_concat l with rfl | ⟨a, d, rfl⟩
 ·exact absurd rfl h0
 rw [List.concat_eq_append] at h ⊢
 have hd := h.dg d (by simp)
 have hn := zdB h
 have e : (a ++ [d]).getD ((a ++ [d]).length - 1) 0 = d := by simp
 rw [e]
 have hl : (a ++ [d]).length - 1 = a.length := by simp
 rw [hl, zax]
 simp only [zx, zap, Nat.mul_zero, Nat.add_zero]
 have hv := zaQ h.dg.left
 have hp : (4294967296 : Nat) ^ a.length = 2 ^ (32 * a.length) := by rw [Nat.pow_mul]
 rw [hp] at hv ⊢
 have hpos : 0 < 2 ^ (32 * a.length) := Nat.pow_pos (by omega)
 have hd1 : 2 ^ (32 * a.length) * 1 ≤ 2 ^ (32 * a.length) * d.toNat := Nat.mul_le_mul_left _ (by omega)
 rw [zb3 (n := V a + 2 ^ (32 * a.length) * d.toNat) (k := 32 * a.length) (by omega)]
 rw [Nat.add_mul_div_left _ _ hpos, Nat.div_eq_of_lt hv, Nat.zero_add]
theorem zeK {l : List Int} (h : Nm l) (hb : l.length < 1000000000) : Ev (fun k => zat.f k l) ((bl (V l) : Nat) : Int) := by
 unfold zat.f
 by_cases c : l.length = 0
 ·have : l = [] := List.eq_nil_of_length_eq_zero c
  subst this
  (repeat (first | with_reducible refine ep ?_ | with_reducible refine en ?_)); exact Ev.now _
 ·(repeat (first | with_reducible refine ep ?_ | with_reducible refine en ?_))
  have e : wrap64 ((l.length : Int) - 1) = ((l.length - 1 : Nat) : Int) := by unfold wrap64; omega
  rw [e]
  clear e
  (repeat (first | with_reducible refine ep ?_ | with_reducible refine en ?_))
  have hd := h.dg.getD (l.length - 1)
  rw [rdn, zaw (by omega) (by omega)]
  generalize hx : l.getD (l.length - 1) 0 = x at hd
  obtain ⟨n, rfl⟩ := Int.eq_ofNat_of_zero_le hd.1
  have hbn : bl n ≤ 32 := zaq (by omega)
  refine zh (zg3 n _ (by omega) (by omega)) ?_
  have hne : l ≠ [] := fun e => c (by rw [e]; rfl)
  have hm := zdA h.dg |>.1 h
  rw [zdP h hne, hx]
  simp
theorem pw {s : Nat} (h : s ≤ 32) : 2 ^ s * 2 ^ (32 - s) = 4294967296 := by
 rw [← Nat.pow_add]; have : s + (32 - s) = 32 := by omega
 rw [this]
theorem zr (s : Nat) : 0 < 2 ^ s := Nat.pow_pos (by omega)
theorem zbT {X P Q c : Nat} (hP : 0 < P) (hc : c < P) : (X * P + c) / (P * Q) = X / Q ∧ (X * P + c) % (P * Q) = P * (X % Q) + c := by
 have h1 : (X * P + c) / P = X := by rw [Nat.mul_comm, Nat.mul_add_div hP, Nat.div_eq_of_lt hc, Nat.add_zero]
 have h2 : (X * P + c) % P = c := by rw [Nat.mul_comm, Nat.mul_add_mod, Nat.mod_eq_of_lt hc]
 exact ⟨by rw [← Nat.div_div_eq_div_mul, h1], by rw [Nat.mod_mul, h1, h2, Nat.add_comm]⟩
theorem zde (s : Nat) : ((2 : Int) ^ s) = ((2 ^ s : Nat) : Int) := by simp
theorem zhc (X s : Nat) (hs : s < 32) : shl .u32 (X : Int) (s : Int) = ((X * 2 ^ s % 4294967296 : Nat) : Int) := by
 unfold shl
 rw [Int.toNat_natCast, Nat.min_eq_left (by simp [IntKind.bits]; omega), zde, ← Int.natCast_mul]
 simp [IntKind.wrap, IntKind.bits, IntKind.signed]
theorem zdn (X s : Nat) (hs : s ≤ 32) (hX : X < 4294967296) : shl .u64 (X : Int) (s : Int) = ((X * 2 ^ s : Nat) : Int) := by
 unfold shl
 rw [Int.toNat_natCast, Nat.min_eq_left (by simp [IntKind.bits]; omega), zde, ← Int.natCast_mul]
 have h1 : 2 ^ s ≤ 2 ^ 32 := Nat.pow_le_pow_right (by omega) hs
 have h2 : X * 2 ^ s ≤ 4294967295 * 2 ^ 32 := Nat.mul_le_mul (by omega) h1
 exact u64 (by omega) (by omega)
theorem zbw {k : IntKind} (X s : Nat) (hs : s ≤ k.bits) : shr k (X : Int) (s : Int) = ((X / 2 ^ s : Nat) : Int) := by
 unfold shr
 rw [Int.toNat_natCast, Nat.min_eq_left hs, zde, ← Int.natCast_ediv]
theorem zbY (X : Nat) (hX : X < 4294967296) : IntKind.u64.wrap (X : Int) = (X : Int) := u64 (by omega) (by omega)
theorem zdt {s : Nat} (hs : s ≤ 32) : wrap64 (32 - (s : Int)) = ((32 - s : Nat) : Int) := by unfold wrap64; omega
theorem zb7 {X s : Nat} (hs : s ≤ 32) (hX : X < 4294967296) : X / 2 ^ s < 2 ^ (32 - s) := by
 rw [Nat.div_lt_iff_lt_mul (zr _), Nat.mul_comm, pw hs]; exact hX
theorem zhp (X s c : Nat) (hs : s < 32) (hX : X < 4294967296) (hc : c < 2 ^ s) : Go.bits .or .u32 (shl .u32 (X : Int) (s : Int)) (c : Int) = (((X * 2 ^ s + c) % 4294967296 : Nat) : Int) := by
 have h1 := (zbT (X := X) (Q := 2 ^ (32 - s)) (zr s) hc).2
 have h0 := (zbT (X := X) (Q := 2 ^ (32 - s)) (c := 0) (zr s) (zr s)).2
 have hle : 2 ^ s ≤ 2 ^ 31 := Nat.pow_le_pow_right (by omega) (by omega)
 rw [pw (by omega)] at h1 h0
 rw [zhc _ _ hs, u32_or_nat _ _ (by omega) (by omega), h1]
 rw [Nat.add_zero, Nat.add_zero] at h0
 rw [h0, ← Nat.two_pow_add_eq_or_of_lt hc]
theorem zho (X s c : Nat) (hs : s < 32) (hX : X < 4294967296) (hc : c < 2 ^ s) : (shr .u64 (IntKind.u64.wrap (X : Int)) (wrap64 (32 - (s : Int)))) % 4294967296 = (((X * 2 ^ s + c) / 4294967296 : Nat) : Int) := by
 have h1 := (zbT (X := X) (Q := 2 ^ (32 - s)) (zr s) hc).1
 rw [pw (by omega)] at h1
 rw [zbY _ hX, zdt (by omega), zbw _ _ (by simp [IntKind.bits]; omega), h1]
 have := zb7 (s := 32 - s) (by omega) hX
 have h3 : X / 2 ^ (32 - s) ≤ X := Nat.div_le_self _ _
 omega
theorem zds (X s c : Nat) (hs : s < 32) (hX : X < 4294967296) (hc : c < 2 ^ s) : (X * 2 ^ s + c) / 4294967296 < 2 ^ s := by
 have h1 := (zbT (X := X) (Q := 2 ^ (32 - s)) (zr s) hc).1
 rw [pw (by omega)] at h1
 rw [h1]
 have := zb7 (s := 32 - s) (by omega) hX
 have e : 32 - (32 - s) = s := by omega
 rwa [e] at this
theorem zg8 (X s c : Nat) (hs : s < 32) (hX : X < 4294967296) (hc : c < 2 ^ s) : Go.bits .or .u64 (c : Int) (shl .u64 (IntKind.u64.wrap (X : Int)) (s : Int)) = ((X * 2 ^ s + c : Nat) : Int) := by
 have hle : 2 ^ s ≤ 2 ^ 31 := Nat.pow_le_pow_right (by omega) (by omega)
 have h2 : X * 2 ^ s ≤ 4294967295 * 2 ^ 31 := Nat.mul_le_mul (by omega) hle
 rw [zbY _ hX, zdn _ _ (by omega) hX, u64_or_nat _ _ (by omega) (by omega), Nat.or_comm, Nat.mul_comm X, ← Nat.two_pow_add_eq_or_of_lt hc]
def zaP (P : Nat) : List Int → Nat → List Int
 | [], c => [(c : Int)]
 | d :: l, c => (((d.toNat * P + c) % 4294967296 : Nat) : Int) :: zaP P l ((d.toNat * P + c) / 4294967296)
theorem ze8 {s : Nat} (hs : s < 32) : ∀ (l : List Int) (c : Nat), Dg l → c < 2 ^ s → V (zaP (2 ^ s) l c) = V l * 2 ^ s + c ∧ Dg (zaP (2 ^ s) l c)
 | [], c, _, hc => by
  have hle : 2 ^ s ≤ 2 ^ 31 := Nat.pow_le_pow_right (by omega) (by omega)
  simp only [zaP, zx, zap]
  exact ⟨by omega, Dg.cons (by omega) (by omega) Dg.nil⟩
 | d :: l, c, hg, hc => by
  have hd := hg.head
  have hX : d.toNat < 4294967296 := by omega
  have ih := ze8 hs l _ hg.tail (zds d.toNat s c hs hX hc)
  simp only [zaP, zx, ih.1]
  refine ⟨?_, Dg.cons (by omega) (by omega) ih.2⟩
  generalize hm : d.toNat * 2 ^ s + c = m
  rw [Nat.add_mul, Nat.mul_assoc]
  generalize V l * 2 ^ s = z
  omega
theorem nn {i : Nat} : 0 ≤ (i : Int) := Int.natCast_nonneg i
theorem zfa (A : List Int) (hA : Dg A) (hl : A.length < 1000000000) {s : Nat} (hs : s < 32) : ∀ (a done pa : List Int) (c : Nat), A = pa ++ a → c < 2 ^ s → Dg done → done.length + a.length < 2000000000 →
  Ev (fun k => zam.l0 k done s c A A.length pa.length) (D (V (done ++ zaP (2 ^ s) a c)))
 | [], done, pa, c, he, hc, hg, hb => by
  have hlen : A.length = pa.length := by rw [he]; simp
  have hle : 2 ^ s ≤ 2 ^ 31 := Nat.pow_le_pow_right (by omega) (by omega)
  refine zg ?_
  simp only [zam.l0]
  (repeat (first | with_reducible refine ep ?_ | with_reducible refine en ?_))
  exact Ev.bind (zbP (hg.app (Dg.cons (by omega) (by omega) Dg.nil)) (by simp at hb ⊢; omega)) (Ev.now _)
 | d :: a, done, pa, c, he, hc, hg, hb => by
  have hlen : A.length = pa.length + 1 + a.length := by rw [he]; simp; omega
  have hd : 0 ≤ d ∧ d < 4294967296 := by rw [he] at hA; exact hA.right.head
  obtain ⟨X, rfl⟩ := Int.eq_ofNat_of_zero_le hd.1
  have hX : X < 4294967296 := by omega
  have h1 : rd A (pa.length : Int) = (X : Int) := by rw [he]; exact zab rfl
  refine zg ?_
  simp only [zam.l0, h1, zC (n := pa.length) (by omega), zhp X s c hs hX hc, zho X s c hs hX hc]
  have w32 : wrap64 (32 - (s : Int)) = 32 - (s : Int) := by unfold wrap64; omega
  (repeat (first | with_reducible refine ep ?_ | with_reducible refine en ?_))
  have := zfa A hA hl hs a (done ++ [(((X * 2 ^ s + c) % 4294967296 : Nat) : Int)]) (pa ++ [(X : Int)]) ((X * 2 ^ s + c) / 4294967296) (by rw [he]; simp) (zds X s c hs hX hc) (hg.app (Dg.cons (by omega) (by omega) Dg.nil)) (by simp at hb ⊢; omega)
  rw [List.length_append, List.length_singleton] at this
  refine zh this ?_
  simp [zaP]
theorem zeT (A : List Int) (hA : Dg A) (hl : A.length < 1000000000) {s : Nat} (hs : s < 32) : ∀ (a done pa : List Int) (c : Nat), A = pa ++ a → c < 2 ^ s → Dg done → done.length + a.length < 2000000000 →
  Ev (fun k => zae.l0 k A done s c pa.length) (D (V (done ++ zaP (2 ^ s) a c)))
 | [], done, pa, c, he, hc, hg, hb => by
  have hlen : A.length = pa.length := by rw [he]; simp
  have hle : 2 ^ s ≤ 2 ^ 31 := Nat.pow_le_pow_right (by omega) (by omega)
  refine zg ?_
  have e : (c : Int) % 4294967296 = (c : Int) := by omega
  simp only [zae.l0, e]
  (repeat (first | with_reducible refine ep ?_ | with_reducible refine en ?_))
  exact Ev.bind (zbR (hg.app (Dg.cons (by omega) (by omega) Dg.nil)) (by simp at hb ⊢; omega)) (Ev.now _)
 | d :: a, done, pa, c, he, hc, hg, hb => by
  have hlen : A.length = pa.length + 1 + a.length := by rw [he]; simp; omega
  have hd : 0 ≤ d ∧ d < 4294967296 := by rw [he] at hA; exact hA.right.head
  obtain ⟨X, rfl⟩ := Int.eq_ofNat_of_zero_le hd.1
  have hX : X < 4294967296 := by omega
  have h1 : rd A (pa.length : Int) = (X : Int) := by rw [he]; exact zab rfl
  have e1 : ((X * 2 ^ s + c : Nat) : Int) % 4294967296 = (((X * 2 ^ s + c) % 4294967296 : Nat) : Int) := by omega
  have e2 : ((X * 2 ^ s + c : Nat) : Int) / 4294967296 = (((X * 2 ^ s + c) / 4294967296 : Nat) : Int) := by omega
  refine zg ?_
  simp only [zae.l0, h1, zC (n := pa.length) (by omega), zg8 X s c hs hX hc, e1, e2]
  (repeat (first | with_reducible refine ep ?_ | with_reducible refine en ?_))
  have := zeT A hA hl hs a (done ++ [(((X * 2 ^ s + c) % 4294967296 : Nat) : Int)]) (pa ++ [(X : Int)]) ((X * 2 ^ s + c) / 4294967296) (by rw [he]; simp) (zds X s c hs hX hc) (hg.app (Dg.cons (by omega) (by omega) Dg.nil)) (by simp at hb ⊢; omega)
  rw [List.length_append, List.length_singleton] at this
  refine zh this ?_
  simp [zaP]
theorem t32 {n : Nat} (h : n < 4611686018427387904) : wrap64 (Int.tdiv (n : Int) 32) = ((n / 32 : Nat) : Int) := by
 rw [Int.tdiv_eq_ediv_of_nonneg (by omega)]; unfold wrap64; omega
theorem m32 (n : Nat) : Int.tmod (n : Int) 32 = ((n % 32 : Nat) : Int) := by
 rw [Int.tmod_eq_emod_of_nonneg (by omega)]; omega
theorem zch (n : Nat) : 2 ^ n = 4294967296 ^ (n / 32) * 2 ^ (n % 32) := by
 have h : (4294967296 : Nat) = 2 ^ 32 := by decide
 rw [h, ← Nat.pow_mul, ← Nat.pow_add]; congr 1; omega
theorem ze9 {a : List Int} (ha : Dg a) (n : Nat) : V (List.replicate (n / 32) 0 ++ zaP (2 ^ (n % 32)) a 0) = V a * 2 ^ n := by
 have h := (ze8 (s := n % 32) (by omega) a 0 ha (zr _)).1
 rw [zax, zcY, List.length_replicate, h, Nat.zero_add, Nat.add_zero, zch n, Nat.mul_left_comm]
theorem zgz {a : List Int} (ha : Dg a) (la : a.length < 1000000000) (n : Nat) (hn : n < 1000000000) : Ev (fun k => zam.f k a n) (D (V a * 2 ^ n)) := by
 unfold zam.f
 have e1 : wrap64 (wrap64 (((n / 32 : Nat) : Int) + (a.length : Int)) + 1) = ((n / 32 + a.length + 1 : Nat) : Int) := by unfold wrap64; omega
 simp only [t32 (n := n) (by omega), m32, e1]
 clear e1
 by_cases h0 : a = []
 ·subst h0
  (repeat (first | with_reducible refine ep ?_ | with_reducible refine en ?_))
  exact zh (Ev.now _) (by simp [zJ])
 ·have : 0 < a.length := List.length_pos_iff.2 h0
  (repeat (first | with_reducible refine ep ?_ | with_reducible refine en ?_))
  have h := zfa a ha la (s := n % 32) (by omega) a (List.replicate (n / 32) 0) [] 0 rfl (zr _) (Dg.zeros _) (by simp; omega)
  rw [ze9 ha] at h
  simp only [Int.toNat_natCast]
  simpa using h
theorem zeN {a : List Int} (ha : Dg a) (la : a.length < 1000000000) (n : Nat) (hn : n < 1000000000) : Ev (fun k => zae.f k a n) (D (V a * 2 ^ n)) := by
 unfold zae.f
 simp only [t32 (n := n) (by omega), m32]
 by_cases h0 : a = []
 ·subst h0
  (repeat (first | with_reducible refine ep ?_ | with_reducible refine en ?_))
  exact zh (Ev.now _) (by simp [zJ])
 ·have : 0 < a.length := List.length_pos_iff.2 h0
  (repeat (first | with_reducible refine ep ?_ | with_reducible refine en ?_))
  have h := zeT a ha la (s := n % 32) (by omega) a (List.replicate (n / 32) 0) [] 0 rfl (zr _) (Dg.zeros _) (by simp; omega)
  rw [ze9 ha] at h
  simp only [Int.toNat_natCast]
  simpa using h
theorem pw' {s : Nat} (h : s ≤ 32) : 2 ^ (32 - s) * 2 ^ s = 4294967296 := by rw [Nat.mul_comm]; exact pw h
theorem zb0 {l : List Int} (h : Dg l) (q : Nat) : V (l.drop q) = V l / 4294967296 ^ q := by
 by_cases hq : q ≤ l.length
 ·have e : V l = V (l.take q) + 4294967296 ^ q * V (l.drop q) := by
   conv => lhs; rw [← List.take_append_drop q l, zax, List.length_take, Nat.min_eq_left hq]
  have hlt : V (l.take q) < 4294967296 ^ q := by
   have := zaQ (h.take q); rwa [List.length_take, Nat.min_eq_left hq] at this
  rw [e, Nat.add_mul_div_left _ _ (Nat.pow_pos (by omega)), Nat.div_eq_of_lt hlt, Nat.zero_add]
 ·rw [List.drop_eq_nil_of_le (by omega), zap, Nat.div_eq_of_lt]
  exact Nat.lt_of_lt_of_le (zaQ h) (Nat.pow_le_pow_right (by omega) (by omega))
theorem zc9 {m : Nat} (h : m < 4294967296) : (m : Int) < 4294967296 := by omega
theorem zfR (Y s : Nat) (hs : s < 32) (hY : Y < 4294967296) : (shl .u64 (IntKind.u64.wrap (Y : Int)) (wrap64 (32 - (s : Int)))) % 4294967296 = ((2 ^ (32 - s) * (Y % 2 ^ s) : Nat) : Int) := by
 rw [zbY _ hY, zdt (by omega), zdn _ _ (by omega) hY]
 have h := (zbT (X := Y) (P := 2 ^ (32 - s)) (Q := 2 ^ s) (c := 0) (zr _) (zr _)).2
 rw [pw' (by omega), Nat.add_zero, Nat.add_zero] at h
 rw [← h]; omega
theorem zcu (X Y s : Nat) (hs : s < 32) (hX : X < 4294967296) : X / 2 ^ s + 2 ^ (32 - s) * (Y % 2 ^ s) < 4294967296 := by
 have h1 := zb7 (s := s) (by omega) hX
 have h2 : Y % 2 ^ s + 1 ≤ 2 ^ s := Nat.mod_lt _ (zr _)
 have h3 := Nat.mul_le_mul_left (2 ^ (32 - s)) h2
 rw [pw' (by omega), Nat.mul_add] at h3
 omega
theorem zfQ (X Y s : Nat) (hs : s < 32) (hX : X < 4294967296) (hY : Y < 4294967296) : Go.bits .or .u32 ((X / 2 ^ s : Nat) : Int) ((shl .u64 (IntKind.u64.wrap (Y : Int)) (wrap64 (32 - (s : Int)))) % 4294967296) = ((X / 2 ^ s + 2 ^ (32 - s) * (Y % 2 ^ s) : Nat) : Int) := by
 have hl := zcu X Y s hs hX
 rw [zfR Y s hs hY, u32_or_nat _ _ (Nat.lt_of_le_of_lt (Nat.le_add_right _ _) hl) (Nat.lt_of_le_of_lt (Nat.le_add_left _ _) hl), Nat.or_comm, ← Nat.two_pow_add_eq_or_of_lt (zb7 (by omega) hX), Nat.add_comm]
theorem zgQ (X Y s : Nat) (hs : s < 32) (hX : X < 4294967296) (hY : Y < 4294967296) : (Go.bits .or .u64 (shr .u64 (IntKind.u64.wrap (X : Int)) (s : Int)) (shl .u64 (IntKind.u64.wrap (Y : Int)) (wrap64 (32 - (s : Int))))) % 4294967296 = ((X / 2 ^ s + 2 ^ (32 - s) * (Y % 2 ^ s) : Nat) : Int) := by
 have hl := zb7 (s := s) (by omega) hX
 have hle : 2 ^ (32 - s) ≤ 2 ^ 32 := Nat.pow_le_pow_right (by omega) (by omega)
 have h2 : Y * 2 ^ (32 - s) ≤ 4294967295 * 2 ^ 32 := Nat.mul_le_mul (by omega) hle
 have hX2 : X / 2 ^ s ≤ X := Nat.div_le_self _ _
 rw [zbY _ hX, zbY _ hY, zdt (by omega), zdn _ _ (by omega) hY, zbw _ _ (by simp [IntKind.bits]; omega), u64_or_nat _ _ (by omega) (by omega), Nat.or_comm, Nat.mul_comm Y, ← Nat.two_pow_add_eq_or_of_lt hl, Nat.mul_comm _ Y]
 have h := (zbT (X := Y) (P := 2 ^ (32 - s)) (Q := 2 ^ s) (c := X / 2 ^ s) (zr _) hl).2
 rw [pw' (by omega)] at h
 rw [Nat.add_comm (X / 2 ^ s), ← h]; omega
def zY (s : Nat) : List Int → List Int
 | [] => []
 | d :: l => ((d.toNat / 2 ^ s + 2 ^ (32 - s) * ((l.headD 0).toNat % 2 ^ s) : Nat) : Int) :: zY s l
theorem zfs {l : List Int} {s : Nat} (hs : s ≤ 32) : V l % 2 ^ s = (l.headD 0).toNat % 2 ^ s := by
 cases l with
 | nil => simp
 | cons d l =>
  have h := pw (s := s) hs
  simp only [zx, List.headD_cons]
  rw [← h, Nat.mul_assoc, Nat.add_mul_mod_self_left]
theorem zd3 {s : Nat} (hs : s < 32) : ∀ (l : List Int), Dg l → V (zY s l) = V l / 2 ^ s ∧ Dg (zY s l)
 | [], _ => by simp [zY, Dg.nil]
 | d :: l, hg => by
  have hd := hg.head
  have ih := zd3 hs l hg.tail
  have hl := zcu d.toNat (l.headD 0).toNat s hs (by omega)
  simp only [zY, zx, ih.1]
  refine ⟨?_, Dg.cons nn (zc9 hl) ih.2⟩
  rw [← zfs (l := l) (by omega), Int.toNat_natCast]
  have h := pw (s := s) (by omega)
  have h' := pw' (s := s) (by omega)
  have e1 : (d.toNat + 4294967296 * V l) / 2 ^ s = d.toNat / 2 ^ s + 2 ^ (32 - s) * V l := by
   rw [← h, Nat.mul_assoc, Nat.add_mul_div_left _ _ (zr _)]
  have e2 : 2 ^ (32 - s) * V l = 2 ^ (32 - s) * (V l % 2 ^ s) + 4294967296 * (V l / 2 ^ s) := by
   rw [← h', Nat.mul_assoc, ← Nat.mul_add, Nat.mod_add_div]
  rw [e1, e2, Nat.add_assoc]
theorem zd4 {a : List Int} (ha : Dg a) (n : Nat) : V (zY (n % 32) (a.drop (n / 32))) = V a / 2 ^ n := by
 rw [(zd3 (by omega) _ (ha.drop _)).1, zb0 ha, Nat.div_div_eq_div_mul, ← zch]
theorem zd5 (A : List Int) (hA : Dg A) (hl : A.length < 1000000000) {s : Nat} (hs : s < 32) : ∀ (a done pa : List Int), A = pa ++ a → done.length = pa.length → Dg done →
  Ev (fun k => zag.l0 k A s (done ++ List.replicate a.length 0) A A.length pa.length) (D (V (done ++ zY s a)))
 | [], done, pa, he, hd, hg => by
  have hlen : A.length = pa.length := by rw [he]; simp
  refine zg ?_
  simp only [zag.l0]
  (repeat (first | with_reducible refine ep ?_ | with_reducible refine en ?_))
  simp only [List.length_nil, List.replicate_zero, zY]
  exact Ev.bind (zbP (l := done ++ []) (by simpa using hg) (by simp; omega)) (Ev.now _)
 | d :: a, done, pa, he, hd, hg => by
  have hlen : A.length = pa.length + 1 + a.length := by rw [he]; simp; omega
  have hdd : 0 ≤ d ∧ d < 4294967296 := by rw [he] at hA; exact hA.right.head
  obtain ⟨X, rfl⟩ := Int.eq_ofNat_of_zero_le hdd.1
  have hX : X < 4294967296 := by omega
  have h1 : rd A (pa.length : Int) = (X : Int) := by rw [he]; exact zab rfl
  have hg2 : Dg (a) := by rw [he] at hA; exact hA.right.tail
  have hy := hg2.headD
  have ih := zd5 A hA hl hs a (done ++ [((X / 2 ^ s + 2 ^ (32 - s) * ((a.headD 0).toNat % 2 ^ s) : Nat) : Int)]) (pa ++ [(X : Int)]) (by rw [he]; simp) (by simp [hd])
   (hg.app (Dg.cons nn (zc9 (zcu X (a.headD 0).toNat s hs hX)) Dg.nil))
  rw [@List.length_append _ pa, List.length_singleton] at ih
  refine zg ?_
  have hset : (done ++ List.replicate ((X : Int) :: a).length 0).set ((pa.length : Int)).toNat ((X / 2 ^ s : Nat) : Int) = (done ++ [((X / 2 ^ s : Nat) : Int)]) ++ List.replicate a.length 0 := by
   rw [List.length_cons, List.replicate_succ, zbu (by omega)]
  simp only [zag.l0, h1, zC (n := pa.length) (by omega), zbw (k := .u32) X s (by simp [IntKind.bits]; omega), hset, Option.bind_some]
  have w32 : wrap64 (32 - (s : Int)) = 32 - (s : Int) := by unfold wrap64; omega
  (repeat (first | with_reducible refine ep ?_ | with_reducible refine en ?_))
  by_cases hn : a = []
  ·subst hn
   simp only [List.length_nil, Nat.add_zero] at hlen
   (repeat (first | with_reducible refine ep ?_ | with_reducible refine en ?_))
   refine zh (by simpa [zY] using ih) ?_
   simp [zY]
  ·obtain ⟨y, a', rfl⟩ := List.exists_cons_of_ne_nil hn
   obtain ⟨Y, rfl⟩ := Int.eq_ofNat_of_zero_le hy.1
   simp only [List.headD_cons] at hy ih
   have hlen' := hlen
   simp only [List.length_cons] at hlen'
   have h2 : rd A ((pa.length + 1 : Nat) : Int) = (Y : Int) := by rw [he, show pa ++ (X : Int) :: (Y : Int) :: a' = (pa ++ [(X : Int)]) ++ (Y : Int) :: a' by simp]; exact zab (by simp)
   have h3 : rd (done ++ [((X / 2 ^ s : Nat) : Int)] ++ List.replicate ((Y : Int) :: a').length 0) (pa.length : Int) = ((X / 2 ^ s : Nat) : Int) := by rw [List.append_assoc, List.singleton_append]; exact zab (by omega)
   have hset2 : (done ++ [((X / 2 ^ s : Nat) : Int)] ++ List.replicate ((Y : Int) :: a').length 0).set ((pa.length : Int)).toNat ((X / 2 ^ s + 2 ^ (32 - s) * (Y % 2 ^ s) : Nat) : Int) = done ++ [((X / 2 ^ s + 2 ^ (32 - s) * (Y % 2 ^ s) : Nat) : Int)] ++ List.replicate ((Y : Int) :: a').length 0 := by
    rw [List.append_assoc, List.singleton_append, zbu (by omega)]
   simp only [h2, h3, zfQ X Y s hs hX (by omega), hset2]
   (repeat (first | with_reducible refine ep ?_ | with_reducible refine en ?_))
   rw [Int.toNat_natCast] at ih
   refine zh ih ?_
   simp [zY]
theorem zgw {a : List Int} (ha : Dg a) (la : a.length < 1000000000) (n : Nat) (hn : n < 100000000000) : Ev (fun k => zag.f k a n) (D (V a / 2 ^ n)) := by
 unfold zag.f
 simp only [t32 (n := n) (by omega), m32]
 by_cases h : n / 32 ≥ a.length
 ·(repeat (first | with_reducible refine ep ?_ | with_reducible refine en ?_))
  have : V a / 2 ^ n = 0 := by
   rw [zch, ← Nat.div_div_eq_div_mul, ← zb0 ha, List.drop_eq_nil_of_le h]; simp
  rw [this, zJ]; exact Ev.now _
 ·(repeat (first | with_reducible refine ep ?_ | with_reducible refine en ?_))
  have h := zd5 (a.drop (n / 32)) (ha.drop _) (by simp; omega) (s := n % 32) (by omega) (a.drop (n / 32)) [] [] rfl rfl Dg.nil
  simp only [List.nil_append, zd4 ha] at h
  simp only [Int.toNat_natCast]
  simpa using h
theorem zgT {l : List Int} (h : Dg l) (hl : l.length < 1000000000) (i : Nat) (hi : i < 4611686018427387904) : zbD.f l i = some ((V l / 2 ^ i % 2 : Nat) : Int) := by
 unfold zbD.f
 simp only [t32 hi, m32]
 rw [if_neg (by omega)]
 by_cases hq : i / 32 ≥ l.length
 ·rw [if_pos (by omega)]
  have : V l / 2 ^ i = 0 := by
   rw [zch, ← Nat.div_div_eq_div_mul, ← zb0 h, List.drop_eq_nil_of_le hq]; simp
  rw [this]; rfl
 ·rw [if_neg (by omega), if_pos nn, if_pos (by omega), if_pos nn]
  rw [rdn]
  have hx := h.getD (i / 32)
  obtain ⟨X, hX⟩ := Int.eq_ofNat_of_zero_le hx.1
  have hX2 : X < 4294967296 := by omega
  rw [hX, zbw _ _ (by simp [IntKind.bits]; omega)]
  have hle : X / 2 ^ (i % 32) ≤ X := Nat.div_le_self _ _
  have e := u32_and_nat (X / 2 ^ (i % 32)) 1 (by omega) (by omega)
  rw [Nat.and_one_is_mod] at e
  rw [show (1 : Int) = ((1 : Nat) : Int) from rfl, e]
  congr 2
  rw [zch i, ← Nat.div_div_eq_div_mul, ← zb0 h]
  have hd : l.drop (i / 32) = (X : Int) :: l.drop (i / 32 + 1) := by
   rw [List.drop_eq_getElem_cons (by omega)]
   congr 1
   rw [← hX, List.getD_eq_getElem?_getD, List.getElem?_eq_getElem (by omega)]; rfl
  rw [hd, zx, Int.toNat_natCast, ← pw (s := i % 32) (by omega), Nat.mul_assoc, Nat.add_mul_div_left _ _ (zr _)]
  have e3 : 2 ^ (32 - i % 32) = 2 * 2 ^ (31 - i % 32) := by
   rw [show 32 - i % 32 = (31 - i % 32) + 1 by omega, Nat.pow_succ, Nat.mul_comm]
  rw [e3, Nat.mul_assoc, Nat.add_mul_mod_self_left]
theorem zbb {l : List Int} (h : Dg l) : bl (V l) ≤ 32 * l.length := by
 apply zaq
 have := zaQ h
 rwa [show (4294967296 : Nat) = 2 ^ 32 from rfl, ← Nat.pow_mul] at this
theorem zcn {n k : Nat} (h : n < 4294967296 ^ k) : (D n).length ≤ k := by
 rcases Nat.lt_or_ge k (D n).length with h1 | h1
 ·have h2 := zcT (zt n) (by intro e; rw [e] at h1; simp at h1)
  rw [V_D] at h2
  have h3 : 4294967296 ^ k ≤ 4294967296 ^ ((D n).length - 1) := Nat.pow_le_pow_right (by omega) (by omega)
  omega
 ·exact h1
theorem zeJ (A : List Int) (hA : Dg A) (hl : A.length < 1000000000) (b : Bool) {s : Nat} (hs : s < 32) : ∀ (a done pa : List Int), A = pa ++ a → done.length + a.length < 1000000000 → Dg done →
  Ev (fun k => zad.l0 k A b done s pa.length) (D (V (done ++ zY s a)), b)
 | [], done, pa, he, hd, hg => by
  have hlen : A.length = pa.length := by rw [he]; simp
  refine zg ?_
  simp only [zad.l0]
  (repeat (first | with_reducible refine ep ?_ | with_reducible refine en ?_))
  simp only [zY, List.append_nil]
  exact Ev.bind (zbR hg (by simp at hd; omega)) (Ev.now _)
 | d :: a, done, pa, he, hd, hg => by
  have hlen : A.length = pa.length + 1 + a.length := by rw [he]; simp; omega
  have hdd : 0 ≤ d ∧ d < 4294967296 := by rw [he] at hA; exact hA.right.head
  obtain ⟨X, rfl⟩ := Int.eq_ofNat_of_zero_le hdd.1
  have hX : X < 4294967296 := by omega
  have h1 : rd A (pa.length : Int) = (X : Int) := by rw [he]; exact zab rfl
  have hg2 : Dg (a) := by rw [he] at hA; exact hA.right.tail
  have hy := hg2.headD
  have ih := zeJ A hA hl b hs a (done ++ [((X / 2 ^ s + 2 ^ (32 - s) * ((a.headD 0).toNat % 2 ^ s) : Nat) : Int)]) (pa ++ [(X : Int)]) (by rw [he]; simp) (by simp at hd ⊢; omega)
   (hg.app (Dg.cons nn (zc9 (zcu X (a.headD 0).toNat s hs hX)) Dg.nil))
  rw [@List.length_append _ pa, List.length_singleton] at ih
  have hXs : X / 2 ^ s ≤ X := Nat.div_le_self _ _
  have e0 : ((X / 2 ^ s : Nat) : Int) % 4294967296 = ((X / 2 ^ s : Nat) : Int) := by
   generalize X / 2 ^ s = z at *; omega
  refine zg ?_
  simp only [zad.l0, h1, zC (n := pa.length) (by omega)]
  (repeat (first | with_reducible refine ep ?_ | with_reducible refine en ?_))
  by_cases hn : a = []
  ·subst hn
   simp only [List.length_nil, Nat.add_zero] at hlen
   (repeat (first | with_reducible refine ep ?_ | with_reducible refine en ?_))
   rw [zbY _ hX, zbw _ _ (by simp [IntKind.bits]; omega), e0]
   refine zh (by simpa [zY] using ih) ?_
   simp [zY]
  ·obtain ⟨y, a', rfl⟩ := List.exists_cons_of_ne_nil hn
   obtain ⟨Y, rfl⟩ := Int.eq_ofNat_of_zero_le hy.1
   simp only [List.headD_cons] at hy ih
   have hlen' := hlen
   have w32 : wrap64 (32 - (s : Int)) = 32 - (s : Int) := by unfold wrap64; omega
   have hd' := hd
   simp only [List.length_cons] at hd'
   simp only [List.length_cons] at hlen'
   have h2 : rd A ((pa.length + 1 : Nat) : Int) = (Y : Int) := by rw [he, show pa ++ (X : Int) :: (Y : Int) :: a' = (pa ++ [(X : Int)]) ++ (Y : Int) :: a' by simp]; exact zab (by simp)
   simp only [h2, zgQ X Y s hs hX (by omega)]
   (repeat (first | with_reducible refine ep ?_ | with_reducible refine en ?_))
   rw [Int.toNat_natCast] at ih
   refine zh ih ?_
   simp [zY]
theorem zc2 {m n : Nat} : (zM m n ≥ 0) ↔ n ≤ m := by
 unfold zM; split
 ·constructor <;> intro h <;> omega
 ·split <;> constructor <;> intro h <;> omega
theorem ze5 (a b : Nat) : Int.tmod (a : Int) (b : Int) = ((a % b : Nat) : Int) := rfl
theorem zdZ {m n : Nat} : (zM m n < 0) ↔ m < n := by
 have := zc2 (m := m) (n := n)
 constructor <;> intro h <;> omega
theorem zgr (a b : Nat) : mx (a : Int) (b : Int) = ((max a b : Nat) : Int) := by unfold mx; split <;> omega
theorem zdb {l : List Int} (h : Nm l) (hb : l.length ≤ 4096) : Ev (fun k => zZ.f k l) ((bl (V l) : Nat) : Int) := by
 unfold zZ.f
 refine zi (zbs h.dg (by omega)) ?_
 rw [zak.2 ⟨hb, h⟩]
 (repeat (first | with_reducible refine ep ?_ | with_reducible refine en ?_))
 by_cases c : l.length = 0
 ·have : l = [] := List.eq_nil_of_length_eq_zero c
  subst this
  (repeat (first | with_reducible refine ep ?_ | with_reducible refine en ?_))
  exact zh (Ev.now _) rfl
 ·have e : wrap64 ((l.length : Int) - 1) = ((l.length - 1 : Nat) : Int) := by unfold wrap64; omega
  rw [e]
  clear e
  have hd := h.dg.getD (l.length - 1)
  have hne : l ≠ [] := fun e => c (by rw [e]; rfl)
  rw [rdn]
  (repeat (first | with_reducible refine ep ?_ | with_reducible refine en ?_))
  refine Ev.bind (zgd hd) (zh (Ev.now _) ?_)
  rw [zdP h hne]
  generalize l.getD (l.length - 1) 0 = x at hd
  have hbn : bl x.toNat ≤ 32 := zaq (by omega)
  unfold wrap64
  omega
def zV (n b : Nat) : Prop := ∃ m, n = 2 ^ b * (2 * m + 1)
theorem zV.ne {n b : Nat} (h : zV n b) : n ≠ 0 := by
 obtain ⟨m, h⟩ := h
 have := Nat.mul_pos (zr b) (show 0 < 2 * m + 1 by omega)
 omega
theorem zV.le {n b : Nat} (h : zV n b) : 2 ^ b ≤ n := by
 obtain ⟨m, h⟩ := h
 rw [h]; exact Nat.le_mul_of_pos_right _ (by omega)
theorem zV.mod {n b k : Nat} (h : zV n b) : n % 2 ^ k = 0 ↔ k ≤ b := by
 obtain ⟨m, h⟩ := h
 constructor
 ·intro hk
  rcases Nat.lt_or_ge b k with h1 | h1
  ·exfalso
   obtain ⟨d, rfl⟩ := Nat.exists_eq_add_of_lt h1
   have hd : 2 ^ (b + d + 1) ∣ 2 ^ b * (2 * m + 1) := by rw [← h]; exact Nat.dvd_of_mod_eq_zero hk
   rw [Nat.add_assoc, Nat.pow_add] at hd
   have h2 := Nat.dvd_of_mul_dvd_mul_left (zr b) hd
   rw [Nat.pow_succ] at h2
   have h3 : 2 ∣ 2 * m + 1 := Nat.dvd_trans (Nat.dvd_mul_left 2 _) h2
   omega
  ·exact h1
 ·intro hk
  obtain ⟨d, rfl⟩ := Nat.exists_eq_add_of_le hk
  rw [h, Nat.pow_add, Nat.mul_assoc]
  exact Nat.mul_mod_right _ _
theorem zV.unique {n b c : Nat} (h : zV n b) (k : zV n c) : b = c := by
 have h1 := (h.mod (k := b)).2 (Nat.le_refl _)
 have h2 := (k.mod (k := c)).2 (Nat.le_refl _)
 have h3 := k.mod.1 h1
 have h4 := h.mod.1 h2
 omega
theorem zga {n b : Nat} (h : n % 2 ^ b = 0) (k : n / 2 ^ b % 2 = 1) : zV n b :=
 ⟨n / 2 ^ b / 2, by
  have h1 := Nat.div_add_mod n (2 ^ b)
  rw [h, Nat.add_zero] at h1
  have h2 : 2 * (n / 2 ^ b / 2) + 1 = n / 2 ^ b := by omega
  rw [h2, h1]⟩
theorem zeg {n b k : Nat} (h : zV n b) : zV (n * 2 ^ k) (b + k) := by
 obtain ⟨m, h⟩ := h
 exact ⟨m, by rw [h, Nat.pow_add, Nat.mul_assoc, Nat.mul_comm (2 * m + 1), ← Nat.mul_assoc]⟩
theorem zgb {x : Nat} (h : x ≠ 0) (hx : x < 4294967296) : zV x (Lib.ctz 32 x) ∧ Lib.ctz 32 x < 32 := by
 obtain ⟨m, h1, h2⟩ := Lib.ctzFrom_spec 32 x (by omega) hx
 unfold Lib.ctz
 rw [if_neg h]
 exact ⟨⟨m, h1⟩, h2⟩
theorem zf9 {x r b : Nat} (h : zV x b) (hb : b < 32) : zV (x + 4294967296 * r) b := by
 obtain ⟨m, h⟩ := h
 obtain ⟨d, hd⟩ : ∃ d, 32 = b + (d + 1) := ⟨31 - b, by omega⟩
 have e : 4294967296 = 2 ^ b * (2 ^ d * 2) := by
  rw [← Nat.pow_succ, ← Nat.pow_add, Nat.succ_eq_add_one, ← hd]
 have e2 : 2 ^ b * (2 ^ d * 2) * r = 2 ^ b * (2 * (2 ^ d * r)) := by
  rw [Nat.mul_assoc, Nat.mul_comm (2 ^ d) 2, Nat.mul_assoc]
 refine ⟨m + 2 ^ d * r, ?_⟩
 rw [h, e, e2, ← Nat.mul_add]
 congr 1
 omega
def lw (n : Nat) : Nat := if n = 0 then 0 else Lib.ctzFrom n n
theorem zbo {n : Nat} (h : n ≠ 0) : zV n (lw n) := by
 obtain ⟨m, h1, _⟩ := Lib.ctzFrom_spec n n (by omega) Nat.lt_two_pow_self
 unfold lw
 rw [if_neg h]
 exact ⟨m, h1⟩
theorem zcD {n b : Nat} (h : zV n b) : lw n = b := (zbo h.ne).unique h
theorem zhl {x : Int} (h : 0 ≤ x ∧ x < 4294967296) : zac.f x = some ((Lib.ctz 32 x.toNat : Nat) : Int) := by
 unfold zac.f
 rw [if_pos h]
theorem zhq {i b : Nat} (hi : i < 1000000) (hb : b < 32) : wrap64 (wrap64 (32 * (i : Int)) + (b : Int)) = ((b + 32 * i : Nat) : Int) := by unfold wrap64; omega
theorem zev (A : List Int) (hA : Dg A) (hl : A.length < 1000000) : ∀ (a pa : List Int), A = pa ++ a → V pa = 0 → Ev (fun k => zW.l0 k A A.length pa.length) ((lw (V A) : Nat) : Int)
 | [], pa, he, hv => by
  have hlen : A.length = pa.length := by rw [he]; simp
  refine zg ?_
  simp only [zW.l0]
  (repeat (first | with_reducible refine ep ?_ | with_reducible refine en ?_))
  refine zh (Ev.now _) ?_
  have : V A = 0 := by rw [he, List.append_nil, hv]
  rw [this]; rfl
 | d :: a, pa, he, hv => by
  have hlen : A.length = pa.length + 1 + a.length := by rw [he]; simp; omega
  have hdd : 0 ≤ d ∧ d < 4294967296 := by rw [he] at hA; exact hA.right.head
  have h1 : rd A (pa.length : Int) = d := by rw [he]; exact zab rfl
  refine zg ?_
  simp only [zW.l0, h1, zC (n := pa.length) (by omega)]
  (repeat (first | with_reducible refine ep ?_ | with_reducible refine en ?_))
  by_cases h0 : d = 0
  ·refine zf (fun h => h h0) ?_
   have := zev A hA hl a (pa ++ [0]) (by rw [he, h0]; simp) (by rw [zcW, hv])
   rwa [@List.length_append _ pa, List.length_singleton] at this
  ·refine ze h0 ?_
   refine zi (zhl hdd) ?_
   (repeat (first | with_reducible refine ep ?_ | with_reducible refine en ?_))
   refine zh (Ev.now _) ?_
   have hz := zgb (x := d.toNat) (by omega) (by omega)
   have e : V A = (d.toNat + 4294967296 * V a) * 2 ^ (32 * pa.length) := by
    rw [he, zax, hv, zx, Nat.zero_add, Nat.mul_comm, Nat.pow_mul]
   rw [e, zcD (zeg (zf9 hz.1 hz.2)), zhq (by omega) hz.2]
theorem zeq {a : List Int} (ha : Nm a) (la : a.length ≤ 4096) : Ev (fun k => zW.f k a) ((lw (V a) : Nat) : Int) := by
 unfold zW.f
 refine zi (zbs ha.dg (by omega)) ?_
 rw [zak.2 ⟨la, ha⟩]
 (repeat (first | with_reducible refine ep ?_ | with_reducible refine en ?_))
 exact zev a ha.dg (by omega) a [] rfl rfl
theorem zdD {l : List Int} (h : Dg l) (q : Nat) : V l / 4294967296 ^ q % 4294967296 = (l.getD q 0).toNat := by
 have h1 := zbA (l.drop q)
 rw [zb8, zb0 h] at h1
 have h2 := h.getD q
 rw [h1, Nat.add_mul_mod_self_left, Nat.mod_eq_of_lt (by omega)]
theorem zgp {n i : Nat} (h : n % 2 ^ i = 0) (k : n / 2 ^ i % 2 = 0) : n % 2 ^ (i + 1) = 0 := by
 rw [Nat.pow_succ, Nat.mod_mul, h, k, Nat.mul_zero]
theorem zgo {n q : Nat} (h : n % 2 ^ (32 * q) = 0) (k : n / 4294967296 ^ q % 4294967296 = 0) : n % 2 ^ (32 * q + 32) = 0 := by
 have e : 2 ^ (32 * q + 32) = 2 ^ (32 * q) * 4294967296 := by rw [Nat.pow_add]
 have e2 : 4294967296 ^ q = 2 ^ (32 * q) := by rw [Nat.pow_mul]
 rw [e, Nat.mod_mul, h, ← e2, k, Nat.mul_zero]
theorem zg4 {l : List Int} (h : Dg l) {i : Nat} (hi : i = 32 * l.length) (hm : V l % 2 ^ i = 0) : V l = 0 := by
 have hv := zaQ h
 have e2 : 4294967296 ^ l.length = 2 ^ (32 * l.length) := by rw [Nat.pow_mul]
 rw [e2, ← hi] at hv
 rwa [Nat.mod_eq_of_lt hv] at hm
theorem zfS {i m : Nat} (h : i < 32 * m) : ((i / 32 : Nat) : Int) < (m : Int) := by omega
theorem zeY {i : Nat} (h : i < 100000000000) : wrap64 ((i : Int) + 1) = ((i + 1 : Nat) : Int) ∧ wrap64 ((i : Int) + 32) = ((i + 32 : Nat) : Int) := by unfold wrap64; omega
theorem zg5 {l : List Int} (h : Dg l) (hl : l.length < 1000000000) (n : Nat) : ∀ (i : Nat), 32 * l.length - i ≤ n → i ≤ 32 * l.length → V l % 2 ^ i = 0 → (i % 32 = 0 ∨ l.getD (i / 32) 0 ≠ 0) → Ev (fun k => z5.l0 k l i) ((lw (V l) : Nat) : Int) := by
 induction n using Nat.strongRecOn with
 | _ n ih =>
  intro i hn hi hm hd
  have e32 : wrap64 (32 * (l.length : Int)) = ((32 * l.length : Nat) : Int) := by unfold wrap64; omega
  refine zg ?_
  simp only [z5.l0, e32]
  by_cases hlt : i < 32 * l.length
  ·have hb := zgT h hl i (by clear hm hd; omega)
   refine ze (by clear hm hd; omega) ?_
   refine zi hb ?_
   have hi9 : i < 100000000000 := by clear hm hd; omega
   have hn1 : 32 * l.length - (i + 1) < n := by clear hm hd; omega
   have hn32 : 32 * l.length - (i + 32) < n := by clear hm hd; omega
   have hi1 : i + 1 ≤ 32 * l.length := hlt
   have hi32 : i % 32 = 0 → i + 32 ≤ 32 * l.length := by clear hm hd; omega
   have hne : i ≠ 32 * l.length := by clear hm hd; omega
   have et : wrap64 (Int.tdiv (i : Int) 32) = ((i / 32 : Nat) : Int) := t32 (by clear hm hd; omega)
   have hdv := zfS hlt
   simp only [et, rdn]
   rw [(zeY hi9).1, (zeY hi9).2]
   clear et e32
   rcases Nat.mod_two_eq_zero_or_one (V l / 2 ^ i) with hz | hz
   ·rw [hz]
    refine ze rfl (ze nn (ze hdv ?_))
    by_cases h0 : l.getD (i / 32) 0 = 0
    ·have hi0 : i % 32 = 0 := hd.resolve_right (fun h => h h0)
     have hi33 := hi32 hi0
     obtain ⟨q, hq0⟩ : ∃ q, i = 32 * q := ⟨i / 32, by clear hm hd hz; omega⟩
     subst hq0
     have hq : 32 * q / 32 = q := by clear hm hd hz; omega
     rw [hq] at h0
     rw [hq]
     refine ze h0 ?_
     refine ih _ hn32 (32 * q + 32) (Nat.le_refl _) hi33 (zgo hm ?_) (.inl ?_)
     ·rw [zdD h, h0]; rfl
     ·clear hm hd hz; omega
    ·refine zf h0 ?_
     refine ih _ hn1 (i + 1) (Nat.le_refl _) hi1 (zgp hm hz) ?_
     clear hm hd hz
     rcases Nat.eq_zero_or_pos ((i + 1) % 32) with h1 | h1
     ·exact .inl h1
     ·have : (i + 1) / 32 = i / 32 := by omega
      rw [this]; exact .inr h0
   ·rw [hz]
    refine zf (by decide) ?_
    refine zf (fun e => hne (Int.ofNat.inj e)) ?_
    refine zh (Ev.now _) ?_
    rw [zcD (zga hm hz)]
  ·have hi2 : i = 32 * l.length := by clear hm hd; omega
   refine zf (by clear hm hd; omega) ?_
   refine ze (by rw [hi2]) ?_
   refine zh (Ev.now _) ?_
   rw [zg4 h hi2 hm]; rfl
theorem zeL {l : List Int} (h : Dg l) (hl : l.length < 1000000000) : Ev (fun k => z5.f k l) ((lw (V l) : Nat) : Int) := by
 unfold z5.f
 exact zg5 h hl _ 0 (Nat.le_refl _) (by omega) (by rw [Nat.pow_zero, Nat.mod_one]) (.inl rfl)
theorem zel {n k : Nat} (h : n ≠ 0) : k > lw n ↔ n % 2 ^ k ≠ 0 := by
 have := (zbo h).mod (k := k)
 constructor
 ·intro h1 h2; have := this.1 h2; omega
 ·intro h1; rcases Nat.lt_or_ge (lw n) k with h2 | h2
  ·exact h2
  ·exact absurd (this.2 h2) h1
theorem zgV {a : List Int} (ha : Nm a) (la : a.length < 100000000) (n : Nat) (hn : n < 1000000000) : Ev (fun k => zad.f k a n) (D (V a / 2 ^ n), decide (V a % 2 ^ n ≠ 0)) := by
 unfold zad.f
 have hlt := zaD (V a)
 by_cases h : n ≥ bl (V a)
 ·have hp : V a < 2 ^ n := Nat.lt_of_lt_of_le hlt (Nat.pow_le_pow_right (by omega) h)
  refine Ev.bind (zeK ha (by omega)) ?_
  (repeat (first | with_reducible refine ep ?_ | with_reducible refine en ?_))
  refine zh (Ev.now _) ?_
  rw [Nat.div_eq_of_lt hp, zJ, Nat.mod_eq_of_lt hp]
  congr 1
  refine decide_eq_decide.2 ?_
  have := zb1 ha
  have hl : a.length = 0 ↔ a = [] := List.length_eq_zero_iff
  constructor
  ·intro h1 h2; have := hl.2 (this.1 h2); omega
  ·intro h1
   rcases Nat.eq_zero_or_pos a.length with h3 | h3
   ·exact absurd (this.2 (hl.1 h3)) h1
   ·omega
 ·have h0 : V a ≠ 0 := by
   intro h0; rw [h0, zct] at h; omega
  refine Ev.bind (zeK ha (by omega)) ?_
  (repeat (first | with_reducible refine ep ?_ | with_reducible refine en ?_))
  refine Ev.bind (zeL ha.dg (by omega)) ?_
  (repeat (first | with_reducible refine ep ?_ | with_reducible refine en ?_))
  have hd : decide ((n : Int) > ((lw (V a) : Nat) : Int)) = decide (V a % 2 ^ n ≠ 0) := decide_eq_decide.2 (by rw [← zel h0]; omega)
  rw [hd]
  simp only [t32 (n := n) (by omega), m32]
  have hbl := zbb ha.dg
  have hq : n / 32 ≤ a.length := by omega
  have h1 := zeJ a ha.dg (by omega) (decide (V a % 2 ^ n ≠ 0)) (s := n % 32) (by omega) (a.drop (n / 32)) [] (a.take (n / 32)) (by simp) (by simp; omega) Dg.nil
  rw [List.length_take, Nat.min_eq_left hq, List.nil_append, zd4 ha.dg] at h1
  exact h1
def zbv (v : Nat) (n : Int) : List Int × Bool × Int :=
 if v = 0 then ([], false, 0) else if n < -131072 then ([], true, 0) else if n < 0 then (D (v / 2 ^ (-n).toNat), decide (v % 2 ^ (-n).toNat ≠ 0), 0) else if n > 131072 - (bl v : Int) then ([], false, 3) else (D (v * 2 ^ n.toNat), false, 0)
theorem zdc {a : List Int} (ha : Nm a) (la : a.length ≤ 4096) (n : Int) : Ev (fun k => zX.f k a n) (zbv (V a) n) := by
 unfold zX.f zbv
 refine zi (zbs ha.dg (by omega)) ?_
 rw [zak.2 ⟨la, ha⟩]
 (repeat (first | with_reducible refine ep ?_ | with_reducible refine en ?_))
 by_cases c : a = []
 ·subst c
  (repeat (first | with_reducible refine ep ?_ | with_reducible refine en ?_))
  exact zh (Ev.now _) (by simp)
 have h0 : V a ≠ 0 := fun h => c ((zb1 ha).1 h)
 have hl : a.length ≠ 0 := fun h => c (List.eq_nil_of_length_eq_zero h)
 have hbl := zbb ha.dg
 rw [if_neg h0]
 (repeat (first | with_reducible refine ep ?_ | with_reducible refine en ?_))
 by_cases h1 : n < -131072
 ·rw [if_pos h1]; exact ze h1 (Ev.now _)
 rw [if_neg h1]
 refine zf h1 ?_
 by_cases h2 : n < 0
 ·rw [if_pos h2]
  have e : wrap64 (-n) = (((-n).toNat : Nat) : Int) := by unfold wrap64; omega
  rw [e]
  clear e
  have hm : (-n).toNat ≤ 131072 := by omega
  generalize (-n).toNat = m at *
  refine ze h2 ?_
  refine Ev.bind (zgw ha.dg (by omega) m (by omega)) ?_
  (repeat (first | with_reducible refine ep ?_ | with_reducible refine en ?_))
  refine Ev.bind (zeq ha la) ?_
  (repeat (first | with_reducible refine ep ?_ | with_reducible refine en ?_))
  refine zh (Ev.now _) ?_
  congr 2
  exact decide_eq_decide.2 (by rw [← zel h0]; omega)
 ·rw [if_neg h2]
  have e : wrap64 (131072 - ((bl (V a) : Nat) : Int)) = 131072 - ((bl (V a) : Nat) : Int) := by unfold wrap64; omega
  refine zf h2 ?_
  refine Ev.bind (zdb ha la) ?_
  (repeat (first | with_reducible refine ep ?_ | with_reducible refine en ?_))
  rw [e]
  clear e
  by_cases h3 : n > 131072 - ((bl (V a) : Nat) : Int)
  ·rw [if_pos h3]; exact ze h3 (Ev.now _)
  ·rw [if_neg h3]
   obtain ⟨m, rfl⟩ := Int.eq_ofNat_of_zero_le (show 0 ≤ n by omega)
   refine zf h3 ?_
   refine Ev.bind (zgz ha.dg (by omega) m (by omega)) ?_
   (repeat (first | with_reducible refine ep ?_ | with_reducible refine en ?_))
   refine zh (Ev.now _) ?_
   rw [Int.toNat_natCast]
theorem zaC {x k : Nat} (h : bl x ≤ 32 * k) : (D x).length ≤ k := by
 refine zcn ?_
 have e : 4294967296 ^ k = 2 ^ (32 * k) := by rw [Nat.pow_mul]
 rw [e]
 exact Nat.lt_of_lt_of_le (zaD x) (Nat.pow_le_pow_right (by omega) h)
theorem zb4 (v m : Nat) : bl (v * 2 ^ m) ≤ bl v + m := by
 refine zaq ?_
 rw [Nat.pow_add]
 exact Nat.mul_lt_mul_of_pos_right (zaD v) (zr m)
theorem zdS (v m : Nat) : bl (v / 2 ^ m) = bl v - m := by
 rcases Nat.lt_or_ge v (2 ^ m) with h | h
 ·rw [Nat.div_eq_of_lt h, zct]
  have := zaq h
  omega
 ·rw [zb3 h]; omega
theorem zdm {v m : Nat} (h : bl v + m ≤ 131072) : zbv v (m : Int) = (D (v * 2 ^ m), false, 0) := by
 unfold zbv
 by_cases hv : v = 0
 ·rw [if_pos hv, hv, Nat.zero_mul, zJ]
 ·rw [if_neg hv, if_neg (by omega), if_neg (by omega), if_neg (by omega), Int.toNat_natCast]
theorem zhb {v m : Nat} (h : bl v ≤ 131072) (hm : m ≤ 131072) : zbv v (-(m : Int)) = (D (v / 2 ^ m), decide (v % 2 ^ m ≠ 0), 0) := by
 by_cases hv : v = 0
 ·unfold zbv
  rw [if_pos hv, hv, Nat.zero_div, Nat.zero_mod, zJ]; rfl
 rcases Nat.eq_zero_or_pos m with h0 | h0
 ·subst h0
  have e := zdm (v := v) (m := 0) (by omega)
  rw [Nat.pow_zero, Nat.mul_one] at e
  rw [Nat.pow_zero, Nat.div_one, Nat.mod_one]
  exact e
 ·unfold zbv
  have e : (-(-(m : Int))).toNat = m := by omega
  rw [if_neg hv, if_neg (by omega), if_pos (by omega), e]
theorem zgf {a b L M : Nat} (ha : (D a).length ≤ L) (hb : (D b).length ≤ M) : (D (a * b)).length ≤ L + M := by
 refine zcn ?_
 rw [Nat.pow_add]
 exact Nat.mul_lt_mul'' (Nat.lt_of_lt_of_le (zbM a) (Nat.pow_le_pow_right (by omega) ha)) (Nat.lt_of_lt_of_le (zbM b) (Nat.pow_le_pow_right (by omega) hb))
theorem zhg {q x Q X N : Nat} (hq : q < 4294967296 ^ Q) (hx : x < 4294967296 ^ X) (h1 : Q < N) (h2 : X < N) : q + x < 4294967296 ^ N := by
 obtain ⟨m, rfl⟩ := Nat.exists_eq_add_of_lt (show 0 < N by omega)
 have a : 4294967296 ^ Q ≤ 4294967296 ^ m := Nat.pow_le_pow_right (by omega) (by omega)
 have b : 4294967296 ^ X ≤ 4294967296 ^ m := Nat.pow_le_pow_right (by omega) (by omega)
 rw [Nat.zero_add, Nat.pow_succ]
 generalize 4294967296 ^ m = p at *
 omega
def sv (s : Bool) (n : Nat) : Int := if s = true then -(n : Int) else n
theorem zcN (s : Bool) (n : Nat) : (sv s n).natAbs = n := by unfold sv; split <;> simp
theorem zdo {s : Bool} {n : Nat} : sv s n = 0 ↔ n = 0 := by unfold sv; split <;> omega
theorem ze3 {s : Bool} {n : Nat} (h : n ≠ 0) : decide (sv s n < 0) = s := by
 unfold sv
 cases s
 ·exact decide_eq_false (by simp)
 ·exact decide_eq_true (by simp; omega)
theorem za5 (s : Bool) : sv s 0 = 0 := by unfold sv; split <;> rfl
def mk (z e : Int) : Bool × List Int × Int := if z = 0 then (false, [], 0) else (decide (z < 0), D (z.natAbs / 2 ^ lw z.natAbs), e + (lw z.natAbs : Nat))
theorem zgi {n : Nat} (h : n ≠ 0) (k : Nat) : lw (n * 2 ^ k) = lw n + k := zcD (zeg (zbo h))
theorem zcH (z e : Int) (k : Nat) : mk (z * 2 ^ k) e = mk z (e + k) := by
 unfold mk
 by_cases h : z = 0
 ·subst h; simp
 ·have hp : (0 : Int) < 2 ^ k := Int.pow_pos (by omega)
  have h1 : z * 2 ^ k ≠ 0 := Int.mul_ne_zero h (by omega)
  have hn : z.natAbs ≠ 0 := by omega
  have h2 : (z * 2 ^ k).natAbs = z.natAbs * 2 ^ k := by rw [Int.natAbs_mul, Int.natAbs_pow]; rfl
  have h3 : decide (z * 2 ^ k < 0) = decide (z < 0) := decide_eq_decide.2 (by
   constructor
   ·intro h4
    rcases (show z < 0 ∨ 0 ≤ z by omega) with h5 | h5
    ·exact h5
    ·have := Int.mul_nonneg h5 (Int.le_of_lt hp); omega
   ·intro h4; exact Int.mul_neg_of_neg_of_pos h4 hp)
  rw [if_neg h, if_neg h1, h2, h3, zgi hn]
  have h4 : z.natAbs * 2 ^ k / 2 ^ (lw z.natAbs + k) = z.natAbs / 2 ^ lw z.natAbs := by
   rw [Nat.pow_add]; exact Nat.mul_div_mul_right _ _ (zr k)
  rw [h4]
  congr 2
  omega
structure Dy (s : Bool) (l : List Int) (e : Int) : Prop where
 nm : Nm l
 none : l = [] → s = false ∧ e = 0
 odd : l ≠ [] → V l % 2 = 1
theorem zcF {n : Nat} (h : n % 2 = 1) : lw n = 0 := zcD ⟨n / 2, by rw [Nat.pow_zero, Nat.one_mul]; omega⟩
theorem zcG {s : Bool} {l : List Int} {e : Int} (h : Dy s l e) : mk (sv s (V l)) e = (s, l, e) := by
 unfold mk
 by_cases c : l = []
 ·obtain ⟨h1, h2⟩ := h.none c
  subst c; subst h1; subst h2
  rfl
 ·have h1 := h.odd c
  have h0 : V l ≠ 0 := by omega
  rw [if_neg (fun h => h0 (zdo.1 h)), zcN, ze3 h0, zcF h1, Nat.pow_zero, Nat.div_one, h.nm]
  simp
theorem zaF (z e : Int) : Dy (mk z e).1 (mk z e).2.1 (mk z e).2.2 := by
 unfold mk
 by_cases h : z = 0
 ·rw [if_pos h]; exact ⟨zcU, fun _ => ⟨rfl, rfl⟩, fun h => absurd rfl h⟩
 ·rw [if_neg h]
  obtain ⟨m, hm⟩ := zbo (n := z.natAbs) (by omega)
  have h1 : z.natAbs / 2 ^ lw z.natAbs = 2 * m + 1 := by
   have : z.natAbs / 2 ^ lw z.natAbs = 2 ^ lw z.natAbs * (2 * m + 1) / 2 ^ lw z.natAbs := by rw [← hm]
   rw [this, Nat.mul_div_cancel_left _ (zr _)]
  have h2 : D (z.natAbs / 2 ^ lw z.natAbs) ≠ [] := by rw [h1, zbz (by omega)]; simp
  exact ⟨zt _, fun h => absurd h h2, fun _ => by show V (D _) % 2 = 1; rw [V_D, h1]; omega⟩
theorem zcd (s : Bool) {n : Nat} (h : n ≠ 0) (e : Int) : mk (sv s n) e = (s, D (n / 2 ^ lw n), e + (lw n : Nat)) := by
 unfold mk
 rw [if_neg (fun h2 => h (zdo.1 h2)), zcN, ze3 h]
theorem zcE {n : Nat} (h : n ≠ 0) : lw n < bl n := by
 have h1 := (zbo h).le
 rcases Nat.lt_or_ge (lw n) (bl n) with h2 | h2
 ·exact h2
 ·have h3 := zaD n
  have h4 : 2 ^ bl n ≤ 2 ^ lw n := Nat.pow_le_pow_right (by omega) h2
  omega
theorem zbt {l : List Int} : (l.length : Int) = 0 ↔ l = [] := by
 constructor
 ·intro h; exact List.eq_nil_of_length_eq_zero (by omega)
 ·intro h; rw [h]; rfl
theorem zfh {e : Int} {b : Nat} (h1 : -1000000000000000 ≤ e) (h2 : e ≤ 1000000000000000) (hb : b < 100000000000) : wrap64 (e + (b : Int)) = e + (b : Int) := by unfold wrap64; omega
theorem zcj (s : Bool) {l : List Int} (hl : Nm l) (ll : l.length < 10000000) {e : Int} (h1 : -1000000000000000 ≤ e) (h2 : e ≤ 1000000000000000) : Ev (fun k => z6.f k s l e) (mk (sv s (V l)) e) := by
 unfold z6.f
 by_cases c : l = []
 ·subst c
  (repeat (first | with_reducible refine ep ?_ | with_reducible refine en ?_))
  exact zh (Ev.now _) (by rw [zap, za5]; rfl)
 ·have h0 : V l ≠ 0 := fun h => c ((zb1 hl).1 h)
  have hb := zbb hl.dg
  have hw := zcE h0
  refine zf (fun h => c (zbt.1 h)) ?_
  refine Ev.bind (zeL hl.dg (by omega)) ?_
  (repeat (first | with_reducible refine ep ?_ | with_reducible refine en ?_))
  refine Ev.bind (zgV hl (by omega) (lw (V l)) (by omega)) ?_
  (repeat (first | with_reducible refine ep ?_ | with_reducible refine en ?_))
  refine zh (Ev.now _) ?_
  rw [zcd s h0, zfh h1 h2 (by omega)]
def zcc (s : Bool) (n : Nat) (e : Int) : Bool × List Int × Int × Int :=
 if n = 0 then (false, [], 0, 0) else if e > 16777216 - (lw n : Nat) then (false, [], 0, 20) else if e < -16777216 - (lw n : Nat) then (false, [], 0, 20) else ((mk (sv s n) e).1, (mk (sv s n) e).2.1, (mk (sv s n) e).2.2, 0)
theorem zbJ (s : Bool) {l : List Int} (hl : Nm l) (ll : l.length ≤ 4096) (e : Int) : Ev (fun k => zT.f k s l e) (zcc s (V l) e) := by
 unfold zT.f zcc
 refine zi (zbs hl.dg (by omega)) ?_
 rw [zak.2 ⟨ll, hl⟩]
 (repeat (first | with_reducible refine ep ?_ | with_reducible refine en ?_))
 by_cases c : l = []
 ·subst c
  (repeat (first | with_reducible refine ep ?_ | with_reducible refine en ?_))
  exact zh (Ev.now _) (by rw [zap, if_pos rfl])
 ·have h0 : V l ≠ 0 := fun h => c ((zb1 hl).1 h)
  have hb := zbb hl.dg
  have hw := zcE h0
  rw [if_neg h0]
  refine zf (fun h => c (zbt.1 h)) ?_
  refine Ev.bind (zeq hl ll) ?_
  (repeat (first | with_reducible refine ep ?_ | with_reducible refine en ?_))
  have e1 : wrap64 (16777216 - ((lw (V l) : Nat) : Int)) = 16777216 - ((lw (V l) : Nat) : Int) := by unfold wrap64; omega
  have e2 : wrap64 (-16777216 - ((lw (V l) : Nat) : Int)) = -16777216 - ((lw (V l) : Nat) : Int) := by unfold wrap64; omega
  have e3 : wrap64 (-((lw (V l) : Nat) : Int)) = -((lw (V l) : Nat) : Int) := by unfold wrap64; omega
  rw [e1, e2, e3]
  clear e1 e2 e3
  by_cases h1 : e > 16777216 - ((lw (V l) : Nat) : Int)
  ·rw [if_pos h1]; exact ze h1 (Ev.now _)
  rw [if_neg h1]
  refine zf h1 ?_
  by_cases h2 : e < -16777216 - ((lw (V l) : Nat) : Int)
  ·rw [if_pos h2]; exact ze h2 (Ev.now _)
  rw [if_neg h2]
  have hs := zdc hl ll (-((lw (V l) : Nat) : Int))
  rw [zhb (by omega) (by omega)] at hs
  refine zf h2 ?_
  refine Ev.bind hs ?_
  (repeat (first | with_reducible refine ep ?_ | with_reducible refine en ?_))
  refine zh (Ev.now _) ?_
  rw [zcd s h0, zfh (by omega) (by omega) (by omega)]
def al (z e m : Int) : Int := z * 2 ^ (e - m).toNat
theorem zda {z e m : Int} (h : m ≤ e) : mk (al z e m) m = mk z e := by
 unfold al
 rw [zcH]
 congr 1
 omega
theorem zdN (e m : Int) : al 0 e m = 0 := by unfold al; rw [Int.zero_mul]
theorem zdM {z e m n : Int} (h1 : m ≤ e) (h2 : n ≤ m) : al (al z e m) m n = al z e n := by
 unfold al
 rw [Int.mul_assoc, ← Int.pow_add]
 congr 2
 omega
theorem zfw (x y e m : Int) : al (x + y) e m = al x e m + al y e m := by unfold al; rw [Int.add_mul]
theorem zbB (s : Bool) (n : Nat) (e m : Int) : al (sv s n) e m = sv s (n * 2 ^ (e - m).toNat) := by
 unfold al sv
 split
 ·rw [Int.neg_mul, Int.natCast_mul, Int.natCast_pow]; rfl
 ·rw [Int.natCast_mul, Int.natCast_pow]; rfl
theorem ze1 (s : Bool) (x y : Nat) : sv s x + sv s y = sv s (x + y) := by unfold sv; split <;> omega
theorem zcO {s t : Bool} (h : s ≠ t) {x y : Nat} (hl : y ≤ x) : sv s x + sv t y = sv s (x - y) := by
 unfold sv
 cases s <;> cases t <;> simp at h ⊢ <;> omega
theorem zdp (s : Bool) (n : Nat) : sv (!s) n = -sv s n := by unfold sv; cases s <;> simp
def zj (za ea zb eb : Int) : Bool × List Int × Int := mk (al za ea (min ea eb) + al zb eb (min ea eb)) (min ea eb)
theorem zb2 {za ea zb eb m : Int} (h1 : m ≤ ea) (h2 : m ≤ eb) : mk (al za ea m + al zb eb m) m = zj za ea zb eb := by
 unfold zj
 have h3 : m ≤ min ea eb := by omega
 rw [← zdM (z := za) (e := ea) (m := min ea eb) (n := m) (by omega) h3, ← zdM (z := zb) (e := eb) (m := min ea eb) (n := m) (by omega) h3, ← zfw]
 exact zda h3
theorem zcq (ea zb eb : Int) : zj 0 ea zb eb = mk zb eb := by
 unfold zj; rw [zdN, Int.zero_add]; exact zda (by omega)
theorem zdJ (za ea eb : Int) : zj za ea 0 eb = mk za ea := by
 unfold zj; rw [zdN, Int.add_zero]; exact zda (by omega)
theorem zfb {l : List Int} (h : Dg l) {n : Nat} : (D (V l * 2 ^ n)).length ≤ l.length + n / 32 + 1 := by
 refine zaC (Nat.le_trans (zb4 _ _) ?_)
 have := zbb h
 omega
theorem zfm {e m : Int} (h1 : -1000000000000000 ≤ e) (h2 : e ≤ 1000000000000000) (h3 : -1000000000000000 ≤ m) (h4 : m ≤ e) : wrap64 (e - m) = ((e - m).toNat : Int) := by unfold wrap64; omega
theorem zeF {sa sb : Bool} {la lb : List Int} {ea eb m : Int} (na : Nm la) (nb : Nm lb) (ha : la.length ≤ 1000000) (hb : lb.length ≤ 1000000) (h1 : m ≤ ea) (h2 : m ≤ eb) (h3 : (ea - m).toNat ≤ 100000000) (h4 : (eb - m).toNat ≤ 100000000) (hm : -100000000000000 ≤ m) (hM : m ≤ 100000000000000) :
  Ev (fun k => zN.j2 k sa la ea sb lb eb false [] 0 m) (mk (al (sv sa (V la)) ea m + al (sv sb (V lb)) eb m) m) := by
 refine zg ?_
 simp only [zN.j2]
 rw [zfm (e := ea) (by omega) (by omega) (by omega) h1, zfm (e := eb) (by omega) (by omega) (by omega) h2]
 rw [zbB, zbB]
 generalize (ea - m).toNat = p at *
 generalize (eb - m).toNat = q at *
 have l1 := zfb na.dg (n := p)
 have l2 := zfb nb.dg (n := q)
 refine Ev.bind (zeN na.dg (by omega) p (by omega)) ?_
 (repeat (first | with_reducible refine ep ?_ | with_reducible refine en ?_))
 refine Ev.bind (zeN nb.dg (by omega) q (by omega)) ?_
 (repeat (first | with_reducible refine ep ?_ | with_reducible refine en ?_))
 generalize V la * 2 ^ p = x at *
 generalize V lb * 2 ^ q = y at *
 by_cases hs : sa = sb
 ·subst hs
  have hadd := zgS (zco x) (zco y) (by omega) (by omega)
  rw [V_D, V_D] at hadd
  have l3 : (D (x + y)).length ≤ la.length + lb.length + p / 32 + q / 32 + 3 := by
   refine zcn ?_
   have h5 := zbM x
   have h6 := zbM y
   refine zhg (N := la.length + lb.length + p / 32 + q / 32 + 3) h5 h6 (by omega) (by omega)
  have hf := zcj sa (zt (x + y)) (by omega) (e := m) (by omega) (by omega)
  rw [V_D] at hf
  (repeat (first | with_reducible refine ep ?_ | with_reducible refine en ?_))
  refine Ev.bind hadd ?_
  (repeat (first | with_reducible refine ep ?_ | with_reducible refine en ?_))
  refine Ev.bind hf ?_
  (repeat (first | with_reducible refine ep ?_ | with_reducible refine en ?_))
  refine zh (Ev.now _) ?_
  rw [ze1]
 ·refine zf (by simpa using hs) ?_
  refine Ev.bind (zgU (zt x) (zt y) (by omega)) ?_
  (repeat (first | with_reducible refine ep ?_ | with_reducible refine en ?_))
  rw [V_D, V_D]
  by_cases hc : y ≤ x
  ·have hsub := zeM (zt x) (zt y) (by omega) (by rw [V_D, V_D]; exact hc)
   rw [V_D, V_D] at hsub
   have l3 : (D (x - y)).length ≤ (D x).length := zbZ (Nat.sub_le _ _)
   have hf := zcj sa (zt (x - y)) (by omega) (e := m) (by omega) (by omega)
   rw [V_D] at hf
   refine ze (zc2.2 hc) ?_
   refine Ev.bind hsub ?_
   (repeat (first | with_reducible refine ep ?_ | with_reducible refine en ?_))
   refine Ev.bind hf ?_
   (repeat (first | with_reducible refine ep ?_ | with_reducible refine en ?_))
   refine zh (Ev.now _) ?_
   rw [zcO hs hc]
  ·have hsub := zeM (zt y) (zt x) (by omega) (by rw [V_D, V_D]; omega)
   rw [V_D, V_D] at hsub
   have l3 : (D (y - x)).length ≤ (D y).length := zbZ (Nat.sub_le _ _)
   have hf := zcj sb (zt (y - x)) (by omega) (e := m) (by omega) (by omega)
   rw [V_D] at hf
   refine zf (fun h => hc (zc2.1 h)) ?_
   refine Ev.bind hsub ?_
   (repeat (first | with_reducible refine ep ?_ | with_reducible refine en ?_))
   refine Ev.bind hf ?_
   (repeat (first | with_reducible refine ep ?_ | with_reducible refine en ?_))
   refine zh (Ev.now _) ?_
   rw [Int.add_comm, zcO (fun h => hs h.symm) (by omega)]
structure zdz (la : List Int) (ea : Int) (lb : List Int) (eb : Int) : Prop where
 a : la.length ≤ 1000000
 b : lb.length ≤ 1000000
 d : (ea - eb).natAbs ≤ 100000000
 e : -10000000000000 ≤ ea ∧ ea ≤ 10000000000000
theorem zgR {sa sb : Bool} {la lb : List Int} {ea eb : Int} (ha : Dy sa la ea) (hb : Dy sb lb eb) (h : zdz la ea lb eb) : Ev (fun k => zN.f k sa la ea sb lb eb) (zj (sv sa (V la)) ea (sv sb (V lb)) eb) := by
 obtain ⟨h1, h2, h3, h4⟩ := h
 unfold zN.f
 by_cases c : la = []
 ·subst c
  (repeat (first | with_reducible refine ep ?_ | with_reducible refine en ?_))
  refine zh (Ev.now _) ?_
  rw [zap, za5, zcq, zcG hb]
 refine zf (fun h => c (zbt.1 h)) ?_
 by_cases c2 : lb = []
 ·subst c2
  (repeat (first | with_reducible refine ep ?_ | with_reducible refine en ?_))
  refine zh (Ev.now _) ?_
  rw [zap, za5, zdJ, zcG ha]
 refine zf (fun h => c2 (zbt.1 h)) ?_
 by_cases c3 : eb < ea
 ·refine ze c3 ?_
  exact zh (zeF ha.nm hb.nm h1 h2 (by omega) (by omega) (by omega) (by omega) (by omega) (by omega)) (zb2 (by omega) (by omega))
 ·refine zf c3 ?_
  exact zh (zeF ha.nm hb.nm h1 h2 (by omega) (by omega) (by omega) (by omega) (by omega) (by omega)) (zb2 (by omega) (by omega))
theorem zc8 {l : List Int} (c : l ≠ []) : (l.length : Int) > 0 := by
 have := List.length_pos_iff.2 c
 omega
theorem zgY {s : Bool} {l : List Int} {e : Int} (h : Dy s l e) : zbd.f s l e = some (mk (-(sv s (V l))) e) := by
 unfold zbd.f
 by_cases c : l = []
 ·obtain ⟨h1, h2⟩ := h.none c
  subst c; subst h1; subst h2
  rfl
 ·have hl := zc8 c
  have h1 := h.odd c
  have h0 : V l ≠ 0 := by omega
  rw [if_pos hl, ← zdp, zcd _ h0, zcF h1, Nat.pow_zero, Nat.div_one, h.nm]
  simp
theorem zgk {z e : Int} : (mk z e).2.1 = D (z.natAbs / 2 ^ lw z.natAbs) := by
 unfold mk
 by_cases h : z = 0
 ·subst h; rw [if_pos rfl]; simp [zJ]
 ·rw [if_neg h]
theorem ze2 (s t : Bool) (x y : Nat) : sv s x * sv t y = sv (s != t) (x * y) := by
 unfold sv
 cases s <;> cases t <;> simp [Int.mul_neg, Int.neg_mul]
theorem zgA (s t : Bool) : decide (¬ s = t) = (s != t) := by cases s <;> cases t <;> rfl
theorem zgW {sa sb : Bool} {la lb : List Int} {ea eb : Int} (ha : Dy sa la ea) (hb : Dy sb lb eb) (l1 : la.length ≤ 1000000) (l2 : lb.length ≤ 1000000) (h1 : -100000000000000 ≤ ea) (h2 : ea ≤ 100000000000000) (h3 : -100000000000000 ≤ eb) (h4 : eb ≤ 100000000000000) :
  Ev (fun k => zaG.f k sa la ea sb lb eb) (mk (sv sa (V la) * sv sb (V lb)) (ea + eb)) := by
 unfold zaG.f
 have e : wrap64 (ea + eb) = ea + eb := by unfold wrap64; omega
 rw [e]
 have hl : (D (V la * V lb)).length ≤ la.length + lb.length := zgf (by rw [ha.nm.len]; exact Nat.le_refl _) (by rw [hb.nm.len]; exact Nat.le_refl _)
 have hf := zcj (sa != sb) (zt (V la * V lb)) (by omega) (e := ea + eb) (by omega) (by omega)
 rw [V_D] at hf
 refine Ev.bind (zgX ha.nm.dg hb.nm.dg (by omega) (by omega)) ?_
 (repeat (first | with_reducible refine ep ?_ | with_reducible refine en ?_))
 rw [zgA]
 refine Ev.bind hf ?_
 (repeat (first | with_reducible refine ep ?_ | with_reducible refine en ?_))
 refine zh (Ev.now _) ?_
 rw [ze2]
theorem zg0 (s : Bool) (l : List Int) (e : Int) (s' : Bool) (l' : List Int) (e' : Int) (hb : l.length < 4611686018427387904) : Ev (fun k => zS.f k s l e s' l' e') (decide ((s, l, e) = (s', l', e'))) := by
 unfold zS.f
 by_cases h1 : s = s'
 ·by_cases h2 : e = e'
  ·refine ze (by simpa using h1) ?_
   refine ze h2 ?_
   refine Ev.bind (zg1 l l' hb) ?_
   (repeat (first | with_reducible refine ep ?_ | with_reducible refine en ?_))
   refine zh (Ev.now _) ?_
   exact decide_eq_decide.2 (by simp [h1, h2])
  ·refine ze (by simpa using h1) ?_
   refine zf h2 ?_
   exact zh (Ev.now _) (decide_eq_false (by simp [h2])).symm
 ·refine zf (by simpa using h1) ?_
  exact zh (Ev.now _) (decide_eq_false (by simp [h1])).symm
theorem zfv (z e m : Int) : (al z e m).natAbs = z.natAbs * 2 ^ (e - m).toNat := by
 unfold al
 rw [Int.natAbs_mul, Int.natAbs_pow]; rfl
theorem zfB (X : Nat) (hX : X < 4294967296) : Go.bits .and .u32 (X : Int) 1 = ((X % 2 : Nat) : Int) := by
 have h1 : (BitVec.ofInt 32 (X : Int)).toNat = X := by
  rw [BitVec.ofInt_natCast, BitVec.toNat_ofNat]; exact Nat.mod_eq_of_lt (by omega)
 show IntKind.u32.wrap ((BitVec.ofInt 32 (X : Int) &&& BitVec.ofInt 32 1).toNat : Int) = _
 have h2 : (BitVec.ofInt 32 (1 : Int)).toNat = 1 := by decide
 have h3 : ∀ n : Int, IntKind.u32.wrap n = n % 4294967296 := fun n => by simp [IntKind.wrap, IntKind.signed, IntKind.bits]
 rw [BitVec.toNat_and, h1, h2, h3, Nat.and_one_is_mod]
 omega
theorem zgg {l : List Int} (h : Dg l) : Go.bits .and .u32 (rd l 0) 1 = ((V l % 2 : Nat) : Int) := by
 have h1 := h.getD 0
 have h2 := zdD h 0
 rw [Nat.pow_zero, Nat.div_one] at h2
 have h3 : rd l 0 = l.getD 0 0 := rdn l 0
 rw [h3]
 obtain ⟨x, hx⟩ := Int.eq_ofNat_of_zero_le h1.1
 rw [hx] at h1 h2 ⊢
 rw [zfB x (by omega)]
 rw [Int.toNat_natCast] at h2
 omega
structure My (s : Bool) (l : List Int) (e : Int) : Prop where
 dy : Dy s l e
 len : l.length ≤ 4096
 lo : -16777216 ≤ e
 hi : e ≤ 16777216
theorem zd6 {s : Bool} {l : List Int} {e : Int} (h : My s l e) : zO.f s l e = some true := by
 obtain ⟨hd, hl, h1, h2⟩ := h
 unfold zO.f
 rw [zbs hd.nm.dg (by omega), Option.bind_some, zak.2 ⟨hl, hd.nm⟩, if_neg (by simp)]
 by_cases c : l = []
 ·obtain ⟨h3, h4⟩ := hd.none c
  subst c; subst h3; subst h4
  rfl
 ·have ho := hd.odd c
  rw [if_neg (fun h => c (zbt.1 h)), if_pos (zc8 c), zgg hd.nm.dg, if_pos (by omega)]
  unfold zb9.f
  rw [if_pos h1, decide_eq_true h2]; rfl
theorem zc4 (s : Bool) {l : List Int} (e : Int) (h : l.length ≤ 4096) : zaA.f s l e = some (s, l, e) := by
 unfold zaA.f
 rw [if_pos (by omega)]
theorem zgj {s : Bool} {n : Nat} {e : Int} (h1 : -16777216 ≤ e) (h2 : e + (bl n : Nat) ≤ 16777216) : zcc s n e = ((mk (sv s n) e).1, (mk (sv s n) e).2.1, (mk (sv s n) e).2.2, 0) := by
 unfold zcc
 by_cases h0 : n = 0
 ·rw [if_pos h0, h0, za5]; rfl
 ·have := zcE h0
  rw [if_neg h0, if_neg (by omega), if_neg (by omega)]
theorem zc3 {sa sb : Bool} {la lb : List Int} {ea eb : Int} (ha : My sa la ea) (hb : My sb lb eb) : Ev (fun k => zP.f k [(sa, la, ea), (sb, lb, eb)]) true := by
 unfold zP.f
 have e1 : wrap64 (0 + 1) = 1 := by rw [zaw (by omega) (by omega)]; rfl
 have e2 : wrap64 (1 + 1) = 2 := by rw [zaw (by omega) (by omega)]; rfl
 have el : (([(sa, la, ea), (sb, lb, eb)] : List (Bool × List Int × Int)).length : Int) = 2 := rfl
 have r0 : rdT [.b, .is .u32, .i .i64] [(sa, la, ea), (sb, lb, eb)] 0 = ⟨sa, la, ea⟩ := rfl
 have r1 : rdT [.b, .is .u32, .i .i64] [(sa, la, ea), (sb, lb, eb)] 1 = ⟨sb, lb, eb⟩ := rfl
 refine zg ?_
 simp only [zP.l0, el, e1, e2, r0]
 (repeat (first | with_reducible refine ep ?_ | with_reducible refine en ?_))
 refine zi (zd6 ha) ?_
 (repeat (first | with_reducible refine ep ?_ | with_reducible refine en ?_))
 refine zg ?_
 simp only [zP.l0, el, e1, e2, r1]
 (repeat (first | with_reducible refine ep ?_ | with_reducible refine en ?_))
 refine zi (zd6 hb) ?_
 (repeat (first | with_reducible refine ep ?_ | with_reducible refine en ?_))
 refine zg ?_
 simp only [zP.l0, el, e1, e2]
 (repeat (first | with_reducible refine ep ?_ | with_reducible refine en ?_))
 exact Ev.now _
def ok3 (d : Bool × List Int × Int) : Bool × List Int × Int × Int := (d.1, d.2.1, d.2.2, 0)
theorem zbN {s : Bool} {n : Nat} {e : Int} (h1 : -16777216 ≤ e) (h2 : e + (bl n : Nat) ≤ 16777216) : zcc s n e = ok3 (mk (sv s n) e) := zgj h1 h2
theorem zdQ (x y : Nat) : bl (x + y) ≤ max (bl x) (bl y) + 1 := by
 refine zaq ?_
 have h1 := zaD x
 have h2 := zaD y
 have h3 : 2 ^ bl x ≤ 2 ^ max (bl x) (bl y) := Nat.pow_le_pow_right (by omega) (by omega)
 have h4 : 2 ^ bl y ≤ 2 ^ max (bl x) (bl y) := Nat.pow_le_pow_right (by omega) (by omega)
 rw [Nat.pow_succ]
 omega
theorem zdW {n : Nat} (h : bl n ≤ 131072) : zar n = (D n, 0) := by
 have : (D n).length ≤ 4096 := zaC (by omega)
 unfold zar
 rw [if_neg (by omega)]
theorem zd8 (p q : Bool) (x y : Nat) {e : Int} (hx : bl x ≤ 131000) (hy : bl y ≤ 131000) (h1 : -16000000 ≤ e) (h2 : e ≤ 16000000) : Ev (fun k => zau.f k p (D x) q (D y) e) (ok3 (mk (sv p x + sv q y) e)) := by
 have lx : (D x).length ≤ 4096 := zaC (by omega)
 have ly : (D y).length ≤ 4096 := zaC (by omega)
 unfold zau.f
 by_cases hs : p = q
 ·subst hs
  have hb := zdQ x y
  have a1 := zgt (zt x) (zt y) lx ly
  rw [V_D, V_D, zdW (by omega)] at a1
  have m1 := zbJ p (zt (x + y)) (zaC (by omega)) e
  rw [V_D, zbN (by omega) (by omega), ← ze1] at m1
  (repeat (first | with_reducible refine ep ?_ | with_reducible refine en ?_))
  refine Ev.bind a1 ?_
  (repeat (first | with_reducible refine ep ?_ | with_reducible refine en ?_))
  refine Ev.bind m1 ?_
  (repeat (first | with_reducible refine ep ?_ | with_reducible refine en ?_))
  exact Ev.now _
 ·refine zf (by simpa using hs) ?_
  have c1 := zgu (zt x) (zt y) lx ly
  rw [V_D, V_D] at c1
  refine Ev.bind c1 ?_
  (repeat (first | with_reducible refine ep ?_ | with_reducible refine en ?_))
  by_cases hc : x < y
  ·have s1 := zes (zt y) (zt x) ly lx
   rw [V_D, V_D, show zbU y x = (D (y - x), 0) by unfold zbU; rw [if_neg (by omega)]] at s1
   have hb := zcs (show y - x ≤ y by omega)
   have m1 := zbJ q (zt (y - x)) (zaC (by omega)) e
   rw [V_D, zbN (by omega) (by omega), ← zcO (fun h => hs h.symm) (by omega), Int.add_comm] at m1
   refine ze (zdZ.2 hc) ?_
   refine zg ?_
   simp only [zau.j2]
   refine Ev.bind s1 ?_
   (repeat (first | with_reducible refine ep ?_ | with_reducible refine en ?_))
   refine Ev.bind m1 ?_
   (repeat (first | with_reducible refine ep ?_ | with_reducible refine en ?_))
   exact Ev.now _
  ·have s1 := zes (zt x) (zt y) lx ly
   rw [V_D, V_D, show zbU x y = (D (x - y), 0) by unfold zbU; rw [if_neg (by omega)]] at s1
   have hb := zcs (show x - y ≤ x by omega)
   have m1 := zbJ p (zt (x - y)) (zaC (by omega)) e
   rw [V_D, zbN (by omega) (by omega), ← zcO hs (by omega)] at m1
   refine zf (fun h => hc (zdZ.1 h)) ?_
   refine zg ?_
   simp only [zau.j2]
   refine Ev.bind s1 ?_
   (repeat (first | with_reducible refine ep ?_ | with_reducible refine en ?_))
   refine Ev.bind m1 ?_
   (repeat (first | with_reducible refine ep ?_ | with_reducible refine en ?_))
   exact Ev.now _
structure Sm (s : Bool) (l : List Int) (e : Int) : Prop where
 dy : Dy s l e
 len : l.length ≤ 1000
 lo : -40000 ≤ e
 hi : e ≤ 40000
theorem Sm.my {s : Bool} {l : List Int} {e : Int} (h : Sm s l e) : My s l e := ⟨h.dy, Nat.le_trans h.len (by omega), by have := h.lo; omega, by have := h.hi; omega⟩
theorem zew {s : Bool} {l : List Int} {e : Int} (h : Dy s l e) : ok3 (mk (sv s (V l)) e) = (s, l, e, 0) := by rw [zcG h]; rfl
theorem zfe {e m : Int} (h1 : -40000 ≤ e) (h2 : e ≤ 40000) (h3 : -40000 ≤ m) (h4 : m ≤ 40000) (h : m ≤ e) : wrap64 (e - m) = ((e - m).toNat : Int) := by unfold wrap64; omega
theorem zff {n b : Nat} (hn : n ≤ 80000) (hb : b ≤ 32000) : wrap64 ((n : Int) + (b : Int)) = ((n + b : Nat) : Int) := by unfold wrap64; omega
theorem zd7 {sa sb : Bool} {la lb : List Int} {ea eb : Int} (ha : Sm sa la ea) (hb : Sm sb lb eb) : Ev (fun k => zaf.f k sa la ea sb lb eb) (ok3 (zj (sv sa (V la)) ea (sv sb (V lb)) eb)) := by
 obtain ⟨da, l1, a1, a2⟩ := ha
 obtain ⟨db, l2, b1, b2⟩ := hb
 have ba := zbb da.nm.dg
 have bb := zbb db.nm.dg
 unfold zaf.f
 by_cases c : la = []
 ·subst c
  (repeat (first | with_reducible refine ep ?_ | with_reducible refine en ?_))
  refine zi (zc4 sb eb (by omega)) ?_
  (repeat (first | with_reducible refine ep ?_ | with_reducible refine en ?_))
  refine zh (Ev.now _) ?_
  rw [zap, za5, zcq, zew db]
 refine zf (fun h => c (zbt.1 h)) ?_
 by_cases c2 : lb = []
 ·subst c2
  (repeat (first | with_reducible refine ep ?_ | with_reducible refine en ?_))
  refine zi (zc4 sa ea (by omega)) ?_
  (repeat (first | with_reducible refine ep ?_ | with_reducible refine en ?_))
  refine zh (Ev.now _) ?_
  rw [zap, za5, zdJ, zew da]
 refine zf (fun h => c2 (zbt.1 h)) ?_
 by_cases c3 : ea < eb
 ·have hw := zfe (e := eb) (m := ea) b1 b2 a1 a2 (by omega)
  have hn : (eb - ea).toNat ≤ 80000 := by omega
  have e0 : zj (sv sa (V la)) ea (sv sb (V lb)) eb = mk (sv sb (V lb * 2 ^ (eb - ea).toNat) + sv sa (V la)) ea := by
   rw [← zb2 (m := ea) (by omega) (by omega), zbB, zbB, Int.sub_self, Int.add_comm]
   show mk (_ + sv sa (V la * 2 ^ 0)) ea = _
   rw [Nat.pow_zero, Nat.mul_one]
  rw [e0]
  generalize (eb - ea).toNat = n at *
  have hu := zb4 (V lb) n
  have hs := zdc db.nm (by omega) (n : Int)
  rw [zdm (by omega)] at hs
  have j1 := zd8 sb sa (V lb * 2 ^ n) (V la) (e := ea) (by omega) (by omega) (by omega) (by omega)
  rw [da.nm] at j1
  have hl := zdb db.nm (by omega)
  have hw3 := zff (n := n) (b := bl (V lb)) hn (by omega)
  refine ze c3 ?_
  refine zg ?_
  simp only [zaf.j1, hw]
  refine Ev.bind hl ?_
  (repeat (first | with_reducible refine ep ?_ | with_reducible refine en ?_))
  refine Ev.bind hl ?_
  (repeat (first | with_reducible refine ep ?_ | with_reducible refine en ?_))
  refine Ev.bind hs ?_
  (repeat (first | with_reducible refine ep ?_ | with_reducible refine en ?_))
  refine Ev.bind j1 ?_
  (repeat (first | with_reducible refine ep ?_ | with_reducible refine en ?_))
  exact Ev.now _
 ·have hw := zfe (e := ea) (m := eb) a1 a2 b1 b2 (by omega)
  have hn : (ea - eb).toNat ≤ 80000 := by omega
  have e0 : zj (sv sa (V la)) ea (sv sb (V lb)) eb = mk (sv sa (V la * 2 ^ (ea - eb).toNat) + sv sb (V lb)) eb := by
   rw [← zb2 (m := eb) (by omega) (by omega), zbB, zbB, Int.sub_self]
   show mk (_ + sv sb (V lb * 2 ^ 0)) eb = _
   rw [Nat.pow_zero, Nat.mul_one]
  rw [e0]
  generalize (ea - eb).toNat = n at *
  have hu := zb4 (V la) n
  have hs := zdc da.nm (by omega) (n : Int)
  rw [zdm (by omega)] at hs
  have j1 := zd8 sa sb (V la * 2 ^ n) (V lb) (e := eb) (by omega) (by omega) (by omega) (by omega)
  rw [db.nm] at j1
  have hl := zdb da.nm (by omega)
  have hw3 := zff (n := n) (b := bl (V la)) hn (by omega)
  refine zf c3 ?_
  refine zg ?_
  simp only [zaf.j1, hw]
  refine Ev.bind hl ?_
  (repeat (first | with_reducible refine ep ?_ | with_reducible refine en ?_))
  refine Ev.bind hl ?_
  (repeat (first | with_reducible refine ep ?_ | with_reducible refine en ?_))
  refine Ev.bind hs ?_
  (repeat (first | with_reducible refine ep ?_ | with_reducible refine en ?_))
  refine Ev.bind j1 ?_
  (repeat (first | with_reducible refine ep ?_ | with_reducible refine en ?_))
  exact Ev.now _
theorem zfT {sa sb : Bool} {la lb : List Int} {ea eb : Int} (ha : Sm sa la ea) (hb : Sm sb lb eb) : Ev (fun k => zbj.f k sa la ea sb lb eb) (ok3 (zj (sv sa (V la)) ea (sv sb (V lb)) eb)) := by
 unfold zbj.f
 refine Ev.bind (zc3 ha.my hb.my) ?_
 (repeat (first | with_reducible refine ep ?_ | with_reducible refine en ?_))
 refine Ev.bind (zd7 ha hb) ?_
 (repeat (first | with_reducible refine ep ?_ | with_reducible refine en ?_))
 exact Ev.now _
theorem zfW {s : Bool} {l : List Int} {e : Int} (h : Dy s l e) (hl : l.length ≤ 4096) : zbK.f s l e (!s) = some (mk (-(sv s (V l))) e) := by
 unfold zbK.f
 rw [zc4 s e hl, Option.bind_some]
 by_cases c : l = []
 ·obtain ⟨h1, h2⟩ := h.none c
  subst c; subst h1; subst h2
  rfl
 ·have h1 := h.odd c
  have h0 : V l ≠ 0 := by omega
  rw [← zdp, zcd _ h0, zcF h1, Nat.pow_zero, Nat.div_one, h.nm]
  have hp := zc8 c
  cases s
  ·simp
   omega
  ·simp
theorem zdy {s : Bool} {l : List Int} {e : Int} (h : Dy s l e) : (mk (-(sv s (V l))) e).2.1 = l ∧ sv (mk (-(sv s (V l))) e).1 (V l) = -(sv s (V l)) ∧ (mk (-(sv s (V l))) e).2.2 = e := by
 by_cases c : l = []
 ·obtain ⟨h1, h2⟩ := h.none c
  subst c; subst h1; subst h2
  exact ⟨rfl, by rw [zap, za5, za5]; rfl, rfl⟩
 ·have h3 := h.odd c
  have h0 : V l ≠ 0 := by omega
  rw [← zdp, zcd _ h0, zcF h3, Nat.pow_zero, Nat.div_one, h.nm]
  exact ⟨rfl, rfl, by simp⟩
theorem zfV {sa sb : Bool} {la lb : List Int} {ea eb : Int} (ha : Sm sa la ea) (hb : Sm sb lb eb) : Ev (fun k => zbl.f k sa la ea sb lb eb) (ok3 (zj (sv sa (V la)) ea (-(sv sb (V lb))) eb)) := by
 unfold zbl.f
 have hv := zdy hb.dy
 have hd := zaF (-(sv sb (V lb))) eb
 rw [hv.1, hv.2.2] at hd
 have hn : Sm (mk (-(sv sb (V lb))) eb).1 lb eb := ⟨hd, hb.len, hb.lo, hb.hi⟩
 have h1 := zd7 ha hn
 rw [hv.2.1] at h1
 refine Ev.bind (zc3 ha.my hb.my) ?_
 (repeat (first | with_reducible refine ep ?_ | with_reducible refine en ?_))
 refine zi (zfW hb.dy (Nat.le_trans hb.len (by omega))) ?_
 (repeat (first | with_reducible refine ep ?_ | with_reducible refine en ?_))
 simp only [hv.1, hv.2.2]
 refine Ev.bind h1 ?_
 (repeat (first | with_reducible refine ep ?_ | with_reducible refine en ?_))
 exact Ev.now _
theorem zbC (n : Nat) (h : n < 18446744073709551616) : (BitVec.ofInt 64 (n : Int)).toNat = n := by
 rw [BitVec.ofInt_natCast, BitVec.toNat_ofNat]; exact Nat.mod_eq_of_lt (by omega)
theorem zdO (a b : Nat) (ha : a < 18446744073709551616) (hb : b < 18446744073709551616) : Go.bits .and .u64 (a : Int) (b : Int) = ((a &&& b : Nat) : Int) := by
 show IntKind.u64.wrap ((BitVec.ofInt 64 (a : Int) &&& BitVec.ofInt 64 (b : Int)).toNat : Int) = _
 have hx : a &&& b < 2 ^ 64 := Nat.and_lt_two_pow _ (by omega)
 rw [BitVec.toNat_and, zbC a ha, zbC b hb, za7]
 omega
theorem zcg (a b : Nat) (ha : a < 18446744073709551616) (hb : b < 18446744073709551616) : Go.bits .or .u64 (a : Int) (b : Int) = ((a ||| b : Nat) : Int) := by
 show IntKind.u64.wrap ((BitVec.ofInt 64 (a : Int) ||| BitVec.ofInt 64 (b : Int)).toNat : Int) = _
 have hx : a ||| b < 2 ^ 64 := Nat.or_lt_two_pow (by omega) (by omega)
 rw [BitVec.toNat_or, zbC a ha, zbC b hb, za7]
 omega
theorem zfy (a b : Nat) (ha : a < 18446744073709551616) (hb : b < 18446744073709551616) : Go.bits .andNot .u64 (a : Int) (b : Int) = ((a &&& (18446744073709551616 - 1 - b) : Nat) : Int) := by
 show IntKind.u64.wrap ((BitVec.ofInt 64 (a : Int) &&& ~~~(BitVec.ofInt 64 (b : Int))).toNat : Int) = _
 have hx : a &&& (18446744073709551616 - 1 - b) < 2 ^ 64 := Nat.and_lt_two_pow _ (by omega)
 rw [BitVec.toNat_and, BitVec.toNat_not, zbC a ha, zbC b hb, za7]
 have e : 2 ^ 64 - 1 - b = 18446744073709551616 - 1 - b := by omega
 rw [e]
 omega
theorem zfA (a k : Nat) (ha : a < 18446744073709551616) (hk : k ≤ 63) : Go.bits .and .u64 (a : Int) ((2 ^ k - 1 : Nat) : Int) = ((a % 2 ^ k : Nat) : Int) := by
 have h1 : 2 ^ k ≤ 2 ^ 63 := Nat.pow_le_pow_right (by omega) hk
 rw [zdO a _ ha (by omega), Nat.and_two_pow_sub_one_eq_mod]
theorem zfz (w k : Nat) (hk : k ≤ 63) (hw : w < 2 ^ (k + 1)) : Go.bits .andNot .u64 (w : Int) ((2 ^ k : Nat) : Int) = ((w % 2 ^ k : Nat) : Int) := by
 have h1 : 2 ^ k ≤ 2 ^ 63 := Nat.pow_le_pow_right (by omega) hk
 have h2 : 2 ^ (k + 1) ≤ 2 ^ 64 := Nat.pow_le_pow_right (by omega) (by omega)
 rw [zfy w _ (by omega) (by omega)]
 congr 1
 apply Nat.eq_of_testBit_eq
 intro i
 have e : 18446744073709551616 - 1 - 2 ^ k = 2 ^ 64 - (2 ^ k + 1) := by omega
 rw [Nat.testBit_and, Nat.testBit_mod_two_pow, e, Nat.testBit_two_pow_sub_succ (by omega), Nat.testBit_two_pow]
 rcases Nat.lt_trichotomy i k with h | h | h
 ·have h3 : i < 64 := by omega
  have h4 : ¬ k = i := by omega
  simp [h, h3, h4]
 ·subst h; simp
 ·have h3 : w.testBit i = false := Nat.testBit_lt_two_pow (Nat.lt_of_lt_of_le hw (Nat.pow_le_pow_right (by omega) (by omega)))
  have h4 : ¬ i < k := by omega
  simp [h3, h4]
theorem zfC (w k : Nat) (hk : k ≤ 63) (hw : w < 2 ^ (k + 1)) : Go.bits .and .u64 (w : Int) ((2 ^ k : Nat) : Int) = ((w / 2 ^ k * 2 ^ k : Nat) : Int) := by
 have h1 : 2 ^ k ≤ 2 ^ 63 := Nat.pow_le_pow_right (by omega) hk
 have h2 : 2 ^ (k + 1) ≤ 2 ^ 64 := Nat.pow_le_pow_right (by omega) (by omega)
 rw [zdO w _ (by omega) (by omega)]
 congr 1
 apply Nat.eq_of_testBit_eq
 intro i
 rw [Nat.testBit_and, Nat.testBit_two_pow, Nat.testBit_mul_two_pow, Nat.testBit_div_two_pow]
 rcases Nat.lt_trichotomy i k with h | h | h
 ·have h3 : ¬ k = i := by omega
  have h4 : ¬ k ≤ i := by omega
  simp [h3, h4]
 ·subst h; simp
 ·have h3 : w.testBit i = false := Nat.testBit_lt_two_pow (Nat.lt_of_lt_of_le hw (Nat.pow_le_pow_right (by omega) (by omega)))
  have h4 : ¬ k = i := by omega
  have h5 : i - k + k = i := by omega
  simp [h3, h4, h5]
theorem zgD (a b k : Nat) (hb : b < 2 ^ k) (h : a * 2 ^ k + b < 18446744073709551616) : Go.bits .or .u64 ((a * 2 ^ k : Nat) : Int) (b : Int) = ((a * 2 ^ k + b : Nat) : Int) := by
 rw [zcg _ _ (by omega) (by omega)]
 congr 1
 rw [Nat.mul_comm]
 exact (Nat.two_pow_add_eq_or_of_lt hb a).symm
theorem zgB (a b : Nat) (ha : a < 18446744073709551616) (hb : b < 18446744073709551616) : Go.bits .or .u64 (a : Int) (b : Int) = Go.bits .or .u64 (b : Int) (a : Int) := by
 rw [zcg a b ha hb, zcg b a hb ha, Nat.or_comm]
def isF (f : Int) : Prop := f = 1 ∨ f = 2
def fb (f : Int) : Nat := if f = 1 then 23 else 52
def mo (f : Int) : Nat := if f = 1 then 255 else 2047
def sk (f : Int) : Nat := if f = 1 then 31 else 63
def sg (f : Int) : Nat := if f = 1 then 2147483648 else 9223372036854775808
theorem zha {f : Int} (h : isF f) : zbx.f f = some ((fb f : Int), (mo f : Int), (sg f : Int), true) := by
 rcases h with rfl | rfl <;> rfl
theorem zg9 {f : Int} (h : ¬ isF f) : zbx.f f = some (0, 0, 0, false) := by
 unfold zbx.f
 rw [if_neg (fun e => h (.inl e)), if_neg (fun e => h (.inr e))]
theorem zfl {f : Int} (h : ¬ isF f) (l : List Int) : Ev (fun k => zU.f k f l) (0, 0, 0, 4) := by
 unfold zU.f
 refine zi (zg9 h) ?_
 (repeat (first | with_reducible refine ep ?_ | with_reducible refine en ?_))
 exact Ev.now _
theorem zgq {f : Int} (h : isF f) : Go.bits .or .u64 (sg f : Int) (IntKind.u64.wrap ((sg f : Int) - 1)) = ((2 * sg f - 1 : Nat) : Int) := by
 rcases h with rfl | rfl
 ·have e : IntKind.u64.wrap (((sg 1 : Nat) : Int) - 1) = ((2147483647 : Nat) : Int) := by rw [za7]; rfl
  rw [e, zcg _ _ (by decide) (by decide)]; rfl
 ·have e : IntKind.u64.wrap (((sg 2 : Nat) : Int) - 1) = ((9223372036854775807 : Nat) : Int) := by rw [za7]; rfl
  rw [e, zcg _ _ (by decide) (by decide)]; rfl
theorem zcl {f : Int} (h : isF f) : 0 < sg f ∧ 2 * sg f ≤ 18446744073709551616 := by rcases h with rfl | rfl <;> decide
theorem zeV {f : Int} (h : isF f) : sg f = 2 ^ sk f := by rcases h with rfl | rfl <;> decide
theorem zeX {f : Int} (h : isF f) : sk f ≤ 63 := by rcases h with rfl | rfl <;> decide
def zaj (f : Int) (w : Nat) : Int := if w < 2 * sg f then 0 else 6
theorem zcR {f : Int} (h : isF f) (w : Nat) : Ev (fun k => zU.f k f [(w : Int)]) ((fb f : Int), (mo f : Int), (sg f : Int), zaj f w) := by
 have hp := zcl h
 unfold zU.f zaj
 have e1 : wrap64 (0 + 1) = 1 := by rw [zaw (by omega) (by omega)]; rfl
 have el : (([(w : Int)] : List Int).length : Int) = 1 := rfl
 have er : rd [(w : Int)] 0 = (w : Int) := rfl
 refine zi (zha h) ?_
 (repeat (first | with_reducible refine ep ?_ | with_reducible refine en ?_))
 refine zg ?_
 simp only [zU.l0, el, e1, er, zgq h]
 (repeat (first | with_reducible refine ep ?_ | with_reducible refine en ?_))
 by_cases c : w < 2 * sg f
 ·rw [if_pos c]
  (repeat (first | with_reducible refine ep ?_ | with_reducible refine en ?_))
  refine zg ?_
  simp only [zU.l0, el]
  (repeat (first | with_reducible refine ep ?_ | with_reducible refine en ?_))
  exact Ev.now _
 ·rw [if_neg c]
  (repeat (first | with_reducible refine ep ?_ | with_reducible refine en ?_))
  exact Ev.now _
theorem zhd {f : Int} (h : isF f) : shl .u64 ((mo f : Nat) : Int) ((fb f : Nat) : Int) = ((mo f * 2 ^ fb f : Nat) : Int) := by
 rcases h with rfl | rfl <;> decide
theorem zf8 {f : Int} (h : isF f) : zby.f (fb f : Int) (mo f : Int) (sg f : Int) = some ((mo f * 2 ^ fb f : Nat) : Int) := by
 unfold zby.f
 have hm : mo f < 10000 := by rcases h with rfl | rfl <;> decide
 rw [if_pos (by omega), u64 (by omega) (by omega), zhd h]
def cls (f : Int) (w : Nat) : Int :=
 if w % sg f = 0 then 1 else if w % sg f < 2 ^ fb f then 2 else if w % sg f < mo f * 2 ^ fb f then 3 else if w % sg f = mo f * 2 ^ fb f then 4 else 5
theorem zeW {f : Int} (h : isF f) {w : Nat} (hw : w < 2 * sg f) : Go.bits .andNot .u64 (w : Int) (sg f : Int) = ((w % sg f : Nat) : Int) := by
 rw [zeV h] at hw ⊢
 exact zfz w (sk f) (zeX h) (by rw [Nat.pow_succ, Nat.mul_comm]; exact hw)
theorem zcf {f : Int} (h : isF f) : shl .u64 1 ((fb f : Nat) : Int) = ((2 ^ fb f : Nat) : Int) := by rcases h with rfl | rfl <;> decide
theorem zdX {f : Int} (h : isF f) {w : Nat} (hw : w < 2 * sg f) : za8.f (fb f : Int) (mo f : Int) (sg f : Int) (w : Int) = some (cls f w) := by
 unfold za8.f cls
 rw [zeW h hw, zcf h]
 generalize w % sg f = z
 by_cases c1 : z = 0
 ·rw [if_pos (by omega), if_pos c1]
 rw [if_neg (by omega), if_neg c1, if_pos (by omega)]
 by_cases c2 : z < 2 ^ fb f
 ·rw [if_pos (by omega), if_pos c2]
 rw [if_neg (by omega), if_neg c2, zf8 h, Option.bind_some]
 by_cases c3 : z < mo f * 2 ^ fb f
 ·rw [if_pos (by omega), if_pos c3]
 rw [if_neg (by omega), if_neg c3, Option.bind_some]
 by_cases c4 : z = mo f * 2 ^ fb f
 ·rw [if_pos (by omega), if_pos c4]
 ·rw [if_neg (by omega), if_neg c4]
theorem zdv {f : Int} (h : isF f) {w : Nat} (hw : w < 2 * sg f) : Ev (fun k => zaE.f k f (w : Int)) (cls f w, 0) := by
 have ho := zcR h w
 unfold zaj at ho
 rw [if_pos hw] at ho
 unfold zaE.f
 refine Ev.bind ho ?_
 (repeat (first | with_reducible refine ep ?_ | with_reducible refine en ?_))
 refine zi (zdX h hw) ?_
 (repeat (first | with_reducible refine ep ?_ | with_reducible refine en ?_))
 exact Ev.now _
def z4 (f : Int) (w : Nat) : Bool := decide (sg f ≤ w)
def zE (f : Int) (w : Nat) : Nat := w % sg f / 2 ^ fb f
def zF (f : Int) (w : Nat) : Nat := w % sg f % 2 ^ fb f
theorem zcy {f : Int} (h : isF f) : fb f ≤ 52 := by rcases h with rfl | rfl <;> decide
theorem zdl {f : Int} (h : isF f) : sg f = 2 ^ fb f * (mo f + 1) := by rcases h with rfl | rfl <;> decide
theorem pfb {f : Int} (h : isF f) : 2 ^ fb f ≤ 4503599627370496 := by rcases h with rfl | rfl <;> decide
theorem zbr {f : Int} (h : isF f) : mo f ≤ 2047 := by rcases h with rfl | rfl <;> decide
theorem zhe {f : Int} (h : isF f) {w : Nat} (hw : w < 2 * sg f) : zbX.f (fb f : Int) (mo f : Int) (sg f : Int) (w : Int) = some (z4 f w, (zE f w : Int), (zF f w : Int)) := by
 have hp := zcl h
 have hk := zeX h
 have h52 := zcy h
 have hpw := pfb h
 have hpp := zr (fb f)
 unfold zbX.f
 rw [zeW h hw, zcf h]
 have h1 : Go.bits .and .u64 (w : Int) (sg f : Int) = ((w / sg f * sg f : Nat) : Int) := by
  rw [zeV h] at hw ⊢
  exact zfC w (sk f) hk (by rw [Nat.pow_succ, Nat.mul_comm]; exact hw)
 have hz : w % sg f < sg f := Nat.mod_lt _ hp.1
 have h2 : IntKind.u64.wrap (((2 ^ fb f : Nat) : Int) - 1) = ((2 ^ fb f - 1 : Nat) : Int) := by rw [za7]; omega
 have h3 := zfA (w % sg f) (fb f) (by omega) (by omega)
 have h4 : shr .u64 ((w % sg f : Nat) : Int) ((fb f : Nat) : Int) = ((w % sg f / 2 ^ fb f : Nat) : Int) := zbw _ _ (by show fb f ≤ 64; omega)
 have h5 : wrap64 ((w % sg f / 2 ^ fb f : Nat) : Int) = ((w % sg f / 2 ^ fb f : Nat) : Int) := by
  have hq : w % sg f / 2 ^ fb f < mo f + 1 := Nat.div_lt_of_lt_mul (by rw [← zdl h]; exact hz)
  have hm := zbr h
  clear h1 h2 h3 h4
  generalize w % sg f / 2 ^ fb f = q at hq ⊢
  exact zaw (by omega) (by omega)
 rw [h1, h2, h3, h4, h5]
 have h6 : (decide (¬ (((w / sg f * sg f : Nat) : Int) = 0))) = z4 f w := by
  unfold z4
  by_cases c : sg f ≤ w
  ·have : w / sg f = 1 := Nat.div_eq_of_lt_le (by omega) (by omega)
   rw [this, decide_eq_true c]
   exact decide_eq_true (by omega)
  ·rw [Nat.div_eq_of_lt (by omega), decide_eq_false c]
   simp
 rw [h6, if_pos (by omega)]
 rfl
def lo (f : Int) : Int := if f = 1 then -149 else -1074
theorem zek {f : Int} (h : isF f) : zbW.f (fb f : Int) (mo f : Int) (sg f : Int) = some (lo f) := by
 unfold zbW.f
 have e : wrap64 (Int.tdiv ((mo f : Nat) : Int) 2) = ((mo f / 2 : Nat) : Int) := by
  have := zbr h
  exact zaw (by show (0 : Int) ≤ ((mo f / 2 : Nat) : Int); omega) (by show ((mo f / 2 : Nat) : Int) < _; omega)
 have hm := zbr h
 have hb := zcy h
 rw [e]
 have e2 : wrap64 (1 - ((mo f / 2 : Nat) : Int)) = 1 - ((mo f / 2 : Nat) : Int) := by unfold wrap64; omega
 rw [e2]
 have e3 : wrap64 (1 - ((mo f / 2 : Nat) : Int) - ((fb f : Nat) : Int)) = 1 - ((mo f / 2 : Nat) : Int) - ((fb f : Nat) : Int) := by unfold wrap64; omega
 rw [e3]
 rcases h with rfl | rfl <;> rfl
def zG (f : Int) (w : Nat) : Nat := if zE f w = 0 then zF f w else 2 ^ fb f + zF f w
def wex (f : Int) (w : Nat) : Int := (if zE f w = 0 then 0 else (zE f w : Int) - 1) + lo f
theorem zfY {f : Int} (h : isF f) {w : Nat} (hw : w < 2 * sg f) : Ev (fun k => zbV.f k f (w : Int)) ((fb f : Int), (mo f : Int), (sg f : Int), if cls f w ≥ 4 then 7 else 0) := by
 have ho := zcR h w
 unfold zaj at ho
 rw [if_pos hw] at ho
 unfold zbV.f
 refine Ev.bind ho ?_
 (repeat (first | with_reducible refine ep ?_ | with_reducible refine en ?_))
 refine zi (zdX h hw) ?_
 (repeat (first | with_reducible refine ep ?_ | with_reducible refine en ?_))
 by_cases c : cls f w ≥ 4
 ·refine ze c ?_
  exact zh (Ev.now _) (by rw [if_pos c])
 ·refine zf c ?_
  exact zh (Ev.now _) (by rw [if_neg c])
theorem mx1 (n : Nat) : (wrap64 ((mx (n : Int) 1) - 1) = if n = 0 then 0 else (n : Int) - 1) ∨ 4611686018427387904 ≤ n := by
 by_cases hb : n < 4611686018427387904
 ·left
  have e : mx (n : Int) 1 = ((max n 1 : Nat) : Int) := zgr n 1
  rw [e, zaw (by omega) (by omega)]
  split <;> omega
 ·right; omega
theorem zfk {f : Int} (h : isF f) {w : Nat} (hw : w < 2 * sg f) (hc : cls f w < 4) : Ev (fun k => zao.f k f (w : Int)) (ok3 (mk (sv (z4 f w) (zG f w)) (wex f w))) := by
 have hf := zfY h hw
 rw [if_neg (by omega)] at hf
 have hp := zcl h
 have hz : w % sg f < sg f := Nat.mod_lt _ hp.1
 have he : zE f w < mo f + 1 := Nat.div_lt_of_lt_mul (by rw [← zdl h]; exact hz)
 have hm := zbr h
 have hfr : zF f w < 2 ^ fb f := Nat.mod_lt _ (zr _)
 have hpw := pfb h
 have h52 := zcy h
 have hlo : -1074 ≤ lo f ∧ lo f ≤ -149 := by rcases h with rfl | rfl <;> decide
 have hmx := (mx1 (zE f w)).resolve_right (by omega)
 have hbl : ∀ m : Nat, m < 18446744073709551616 → bl m ≤ 64 := fun m hm => zaq (by omega)
 unfold zao.f
 refine Ev.bind hf ?_
 (repeat (first | with_reducible refine ep ?_ | with_reducible refine en ?_))
 refine zi (zhe h hw) ?_
 (repeat (first | with_reducible refine ep ?_ | with_reducible refine en ?_))
 have hex : wrap64 (wrap64 ((mx (zE f w : Int) 1) - 1) + lo f) = wex f w := by
  rw [hmx]
  unfold wex wrap64
  split <;> omega
 have hwx : -1074 ≤ wex f w ∧ wex f w ≤ 3000 := by unfold wex; split <;> omega
 by_cases c : zE f w = 0
 ·have hm0 : zG f w = zF f w := by unfold zG; rw [if_pos c]
  have o1 := zer (n := (zF f w : Int)) (by omega) (by omega)
  rw [Int.toNat_natCast] at o1
  have hb := hbl (zF f w) (by omega)
  have m1 := zbJ (z4 f w) (zt (zF f w)) (zaC (by omega)) (wex f w)
  rw [V_D, zbN (by omega) (by omega)] at m1
  dsimp only
  (repeat (first | with_reducible refine ep ?_ | with_reducible refine en ?_))
  refine zg ?_; simp only [zao.j1]
  refine Ev.bind (o1) ?_; try dsimp only
  refine zi (zek h) ?_; try dsimp only
  rw [hex, hm0]
  refine Ev.bind m1 ?_
  (repeat (first | with_reducible refine ep ?_ | with_reducible refine en ?_))
  exact Ev.now _
 ·have hm0 : zG f w = 1 * 2 ^ fb f + zF f w := by unfold zG; rw [if_neg c, Nat.one_mul]
  have eo : Go.bits .or .u64 (zF f w : Int) (shl .u64 1 ((fb f : Nat) : Int)) = ((zG f w : Nat) : Int) := by
   rw [zcf h, zgB _ _ (by omega) (by omega), hm0]
   have := zgD 1 (zF f w) (fb f) hfr (by omega)
   rw [Nat.one_mul] at this
   rw [this, Nat.one_mul]
  have hlt : zG f w < 18446744073709551616 := by omega
  have o1 := zer (n := (zG f w : Int)) (by omega) (by omega)
  rw [Int.toNat_natCast] at o1
  have hb := hbl (zG f w) hlt
  have m1 := zbJ (z4 f w) (zt (zG f w)) (zaC (by omega)) (wex f w)
  rw [V_D, zbN (by omega) (by omega)] at m1
  dsimp only
  (repeat (first | with_reducible refine ep ?_ | with_reducible refine en ?_))
  refine zg ?_; simp only [zao.j1]
  rw [eo]
  refine Ev.bind (o1) ?_; try dsimp only
  refine zi (zek h) ?_; try dsimp only
  rw [hex]
  refine Ev.bind m1 ?_
  (repeat (first | with_reducible refine ep ?_ | with_reducible refine en ?_))
  exact Ev.now _
theorem zej {f : Int} (h : isF f) : -1074 ≤ lo f ∧ lo f ≤ -149 := by rcases h with rfl | rfl <;> decide
theorem zgn {f : Int} (h : isF f) : 255 ≤ mo f := by rcases h with rfl | rfl <;> decide
theorem zht {a b : Int} (h1 : -100000000000 ≤ a) (h2 : a ≤ 100000000000) (h3 : -100000000000 ≤ b) (h4 : b ≤ 100000000000) : wrap64 (a + b) = a + b := by unfold wrap64; omega
instance (f : Int) : Decidable (isF f) := inferInstanceAs (Decidable (f = 1 ∨ f = 2))
theorem zdg (f : Int) : zaZ.f f = some (decide (isF f)) := by
 unfold zaZ.f isF
 by_cases h : f = 1
 ·rw [if_pos h]; simp [h]
 ·rw [if_neg h]; simp [h]
def isM (m : Int) : Prop := 1 ≤ m ∧ m ≤ 5
instance (m : Int) : Decidable (isM m) := inferInstanceAs (Decidable (1 ≤ m ∧ m ≤ 5))
theorem zeC {f : Int} (h : isF f) {w : Nat} (hw : w < 18446744073709551616) : zbf.f f (w : Int) = some (zaj f w) := by
 unfold zbf.f zaj
 rw [zdg, decide_eq_true h, Option.bind_some, if_neg (by simp)]
 rcases h with rfl | rfl
 ·rw [if_pos rfl]
  by_cases c : w < 2 * sg 1
  ·rw [if_neg (by simp [sg] at c; omega), if_pos c]
  ·rw [if_pos (by simp [sg] at c; omega), if_neg c]
 ·rw [if_neg (by omega), if_pos (by simp [sg]; omega)]
theorem zgP {f : Int} (h : isF f) : zbG.f f = some (sg f : Int) := by rcases h with rfl | rfl <;> rfl
theorem zeB {f : Int} (h : isF f) : zaY.f f = some (fb f : Int) := by rcases h with rfl | rfl <;> rfl
theorem zgL {f : Int} (h : isF f) : zbF.f f = some (mo f : Int) := by rcases h with rfl | rfl <;> rfl
theorem zeD {f : Int} (h : isF f) : zbE.f f = some (lo f) := by rcases h with rfl | rfl <;> rfl
theorem zcQ {f : Int} (h : isF f) (w : Nat) : zE f w ≤ mo f := by
 have hz : w % sg f < sg f := Nat.mod_lt _ (zcl h).1
 have : zE f w < mo f + 1 := Nat.div_lt_of_lt_mul (by rw [← zdl h]; exact hz)
 omega
theorem zdu (f : Int) (w : Nat) : zF f w < 2 ^ fb f := Nat.mod_lt _ (zr _)
theorem zhs (f : Int) (w : Nat) : w % sg f = zE f w * 2 ^ fb f + zF f w := by
 unfold zE zF
 have := Nat.div_add_mod (w % sg f) (2 ^ fb f)
 rw [Nat.mul_comm] at this
 exact this.symm
theorem zdi {f : Int} (h : isF f) (w : Nat) : zaH.f f (w : Int) = some (z4 f w, (zE f w : Int), (zF f w : Int)) := by
 have hp := zcl h
 have hpp := zr (fb f)
 have hm := zbr h
 have hx := zcQ h w
 have h52 := zcy h
 unfold zaH.f
 rw [zgP h, Option.bind_some, Option.bind_some, if_neg (by omega), zeB h, Option.bind_some, if_pos (by omega), zcf h, if_neg (by omega), Option.bind_some, if_pos (by omega), ze5, ze5, zbw _ _ (by show fb f ≤ 64; omega)]
 have e : wrap64 ((w % sg f / 2 ^ fb f : Nat) : Int) = (zE f w : Int) := by
  show wrap64 ((zE f w : Nat) : Int) = _
  exact zaw (by omega) (by omega)
 rw [e]
 have e2 : decide ((w : Int) ≥ (sg f : Int)) = z4 f w := decide_eq_decide.2 (by omega)
 rw [e2]
 rfl
theorem zdY {f : Int} (h : isF f) (w : Nat) : cls f w = if zE f w = 0 then (if zF f w = 0 then 1 else 2) else if zE f w < mo f then 3 else if zF f w = 0 then 4 else 5 := by
 have h1 := zhs f w
 have h2 := zdu f w
 have h3 := zcQ h w
 have hpp := zr (fb f)
 have hm := zgn h
 unfold cls
 rw [h1]
 generalize zF f w = r at *
 generalize zE f w = q at *
 generalize 2 ^ fb f = p at *
 by_cases c : q = 0
 ·subst c
  simp only [Nat.zero_mul, Nat.zero_add, if_true]
  by_cases c2 : r = 0
  ·simp [c2]
  ·rw [if_neg c2, if_pos h2, if_neg c2]
 ·have h4 : p ≤ q * p := Nat.le_mul_of_pos_left _ (by omega)
  rw [if_neg (by omega), if_neg (by omega), if_neg c]
  by_cases c2 : q < mo f
  ·have h5 : (q + 1) * p ≤ mo f * p := Nat.mul_le_mul_right _ c2
   rw [Nat.add_mul, Nat.one_mul] at h5
   rw [if_pos (by omega), if_pos c2]
  ·have h5 : q = mo f := by omega
   rw [h5, if_neg (by omega), if_neg (Nat.lt_irrefl _)]
   by_cases c3 : r = 0
   ·rw [if_pos (by omega), if_pos c3]
   ·rw [if_neg (by omega), if_neg c3]
theorem zdf {f : Int} (h : isF f) (w : Nat) : zaT.f f (w : Int) = some (cls f w) := by
 unfold zaT.f
 rw [zdi h, Option.bind_some, zdY h, zgL h]
 generalize zF f w = r
 generalize zE f w = q
 generalize mo f = m
 simp only [Option.bind_some]
 by_cases c : q = 0
 ·rw [if_pos (by omega), if_pos c]
  by_cases c2 : r = 0
  ·rw [if_pos (by omega), if_pos c2]
  ·rw [if_neg (by omega), if_pos (by omega), if_neg c2]
 ·rw [if_neg (by omega), if_neg (by omega), if_neg c]
  by_cases c2 : q < m
  ·rw [if_pos (by omega), if_pos c2]
  ·rw [if_neg (by omega), if_neg c2]
   by_cases c3 : r = 0
   ·rw [if_pos (by omega), if_pos c3]
   ·rw [if_neg (by omega), if_neg c3]
theorem zfi {f : Int} (h : isF f) (w : Nat) : zG f w < 18446744073709551616 := by
 have := zdu f w
 have := pfb h
 unfold zG; split <;> omega
theorem zfg {f : Int} (h : isF f) (w : Nat) : -1074 ≤ wex f w ∧ wex f w ≤ 3000 := by
 have := zcQ h w
 have := zbr h
 have := zej h
 unfold wex; split <;> omega
theorem zcK {f : Int} (h : isF f) (w : Nat) : Ev (fun k => zaI.f k f (w : Int)) (mk (sv (z4 f w) (zG f w)) (wex f w)) := by
 have hlt := zfi h w
 have hwb := zfg h w
 have hfr := zdu f w
 have hpw := pfb h
 have hx := zcQ h w
 have hm := zbr h
 have hlo := zej h
 have o1 := zgZ (n := (zG f w : Int)) (by omega) (by omega)
 rw [Int.toNat_natCast] at o1
 have f1 := zcj (z4 f w) (zt (zG f w)) (by
  have : (D (zG f w)).length ≤ 2 := zcn (by omega)
  omega) (e := wex f w) (by omega) (by omega)
 rw [V_D] at f1
 unfold zaI.f
 refine zi (zdi h w) ?_; try dsimp only
 by_cases c : zE f w = 0
 ·have e1 : zG f w = zF f w := by unfold zG; rw [if_pos c]
  have e2 : wex f w = lo f := by unfold wex; rw [if_pos c]; omega
  rw [e1] at o1
  rw [e1, e2] at f1
  refine ze (by omega) ?_
  refine Ev.bind (o1) ?_; try dsimp only
  refine zi (zeD h) ?_; try dsimp only
  refine Ev.bind (f1) ?_; try dsimp only
  rw [e1, e2]
  exact Ev.now _
 ·have e1 : zG f w = 2 ^ fb f + zF f w := by unfold zG; rw [if_neg c]
  have e2 : wex f w = (zE f w : Int) - 1 + lo f := by unfold wex; rw [if_neg c]
  have e3 : IntKind.u64.wrap (((2 ^ fb f : Nat) : Int) + (zF f w : Int)) = (zG f w : Int) := by rw [e1, ← Int.natCast_add]; exact u64 (by omega) (by omega)
  have e4 : wrap64 (wrap64 ((zE f w : Int) - 1) + lo f) = wex f w := by rw [e2]; unfold wrap64; omega
  refine zf (by omega) ?_
  refine zi (zeB h) ?_; try dsimp only
  rw [zcf h, e3]
  refine ze (by omega) ?_
  refine Ev.bind (o1) ?_; try dsimp only
  refine zi (zeD h) ?_; try dsimp only
  rw [e4]
  refine Ev.bind (f1) ?_; try dsimp only
  exact Ev.now _
def mz (z e : Int) : Int := sv (mk z e).1 (V (mk z e).2.1)
def me (z e : Int) : Int := (mk z e).2.2
theorem zce (e : Int) : mz 0 e = 0 := rfl
theorem zhh (z : Int) : sv (decide (z < 0)) z.natAbs = z := by
 unfold sv
 by_cases h : z < 0
 ·rw [decide_eq_true h, if_pos rfl]; omega
 ·rw [decide_eq_false h, if_neg (by simp)]; omega
theorem zbq {z : Int} (h : z ≠ 0) (e : Int) : ∃ j : Nat, z = mz z e * 2 ^ j ∧ me z e = e + (j : Int) ∧ mz z e ≠ 0 ∧ bl (mz z e).natAbs + j = bl z.natAbs := by
 have hn : z.natAbs ≠ 0 := by omega
 have hw := zcE hn
 obtain ⟨q, hq⟩ := zbo hn
 have hd : z.natAbs / 2 ^ lw z.natAbs = 2 * q + 1 := by
  have : z.natAbs / 2 ^ lw z.natAbs = 2 ^ lw z.natAbs * (2 * q + 1) / 2 ^ lw z.natAbs := by rw [← hq]
  rw [this, Nat.mul_div_cancel_left _ (zr _)]
 have hm : mz z e = sv (decide (z < 0)) (z.natAbs / 2 ^ lw z.natAbs) := by
  unfold mz mk; rw [if_neg h]; show sv _ (V (D _)) = _; rw [V_D]
 have he : me z e = e + (lw z.natAbs : Nat) := by unfold me mk; rw [if_neg h]
 refine ⟨lw z.natAbs, ?_, he, ?_, ?_⟩
 ·rw [hm, hd]
  have h1 : sv (decide (z < 0)) (2 * q + 1) * 2 ^ lw z.natAbs = sv (decide (z < 0)) ((2 * q + 1) * 2 ^ lw z.natAbs) := by
   unfold sv
   split
   ·rw [Int.neg_mul, Int.natCast_mul, Int.natCast_pow]; rfl
   ·rw [Int.natCast_mul, Int.natCast_pow]; rfl
  rw [h1, Nat.mul_comm, ← hq, zhh]
 ·rw [hm, hd]; intro h2; have := zdo.1 h2; omega
 ·rw [hm, zcN, zdS]; omega
theorem zgm (z e : Int) : mk (mz z e) (me z e) = mk z e := zcG (zaF z e)
theorem zbp (z e : Int) : (mk z e).2.1.length ≤ (bl z.natAbs + 31) / 32 := by
 rw [zgk]
 refine zaC ?_
 rw [zdS]; omega
theorem zaW (z e : Int) : me z e = 0 ∧ z = 0 ∨ e ≤ me z e ∧ me z e ≤ e + (bl z.natAbs : Nat) := by
 by_cases h : z = 0
 ·exact .inl ⟨by rw [h]; rfl, h⟩
 ·obtain ⟨j, _, h2, _, h4⟩ := zbq h e
  exact .inr (by omega)
theorem zfx {z : Int} (h : z ≠ 0) {e m : Int} (hm : m ≤ e) : al (mz z e) (me z e) m = al z e m := by
 obtain ⟨j, h1, h2, _, _⟩ := zbq h e
 rw [h2]
 have h3 : al z e m = al (mz z e * 2 ^ j) e m := by rw [← h1]
 rw [h3]
 unfold al
 rw [Int.mul_assoc, ← Int.pow_add]
 congr 2
 omega
theorem zdI (za ea zb eb : Int) : zj za ea zb eb = zj zb eb za ea := by
 unfold zj; rw [Int.add_comm, Int.min_comm]
theorem zcp (za ea zb eb : Int) : zj (mz za ea) (me za ea) zb eb = zj za ea zb eb := by
 by_cases h : za = 0
 ·subst h; rw [zce, zcq, zcq]
 ·have hb := zaW za ea
  have h1 : ea ≤ me za ea := by omega
  rw [← zb2 (za := mz za ea) (m := min ea eb) (by omega) (by omega), zfx h (by omega)]
  rfl
theorem zcZ (za ea zb eb : Int) : zj za ea (mz zb eb) (me zb eb) = zj za ea zb eb := by
 rw [zdI, zcp, zdI]
structure Rg (z e : Int) : Prop where
 b : bl z.natAbs ≤ 10000000
 lo : -40000000 ≤ e
 hi : e ≤ 40000000
theorem zg2 {za ea zb eb : Int} (ha : Rg za ea) (hb : Rg zb eb) : zdz (mk za ea).2.1 (me za ea) (mk zb eb).2.1 (me zb eb) := by
 have a1 := zbp za ea
 have b1 := zbp zb eb
 have a2 := zaW za ea
 have b2 := zaW zb eb
 obtain ⟨h1, h2, h3⟩ := ha
 obtain ⟨h4, h5, h6⟩ := hb
 refine ⟨by omega, by omega, by omega, by omega⟩
theorem zci {za ea zb eb : Int} (ha : Rg za ea) (hb : Rg zb eb) : Ev (fun k => zN.f k (mk za ea).1 (mk za ea).2.1 (mk za ea).2.2 (mk zb eb).1 (mk zb eb).2.1 (mk zb eb).2.2) (zj za ea zb eb) := by
 refine zh (zgR (zaF za ea) (zaF zb eb) (zg2 ha hb)) ?_
 show zj (mz za ea) (me za ea) (mz zb eb) (me zb eb) = _
 rw [zcp, zcZ]
theorem zcJ (z e : Int) : mz (-z) e = -mz z e ∧ me (-z) e = me z e := by
 by_cases h : z = 0
 ·subst h; exact ⟨rfl, rfl⟩
 ·have hv := zdy (zaF z e)
  have h1 : mk (-mz z e) (me z e) = mk (-z) e := by
   obtain ⟨j, h1, h2, h3, h4⟩ := zbq h e
   have h5 : mk (-z) e = mk (-mz z e * 2 ^ j) e := by rw [Int.neg_mul, ← h1]
   rw [h5, zcH, h2]
  have h2 : mk (-(sv (mk z e).1 (V (mk z e).2.1))) (mk z e).2.2 = mk (-z) e := h1
  rw [h2] at hv
  refine ⟨?_, hv.2.2⟩
  have h3 : mz (-z) e = sv (mk (-z) e).1 (V (mk z e).2.1) := by unfold mz; rw [hv.1]
  rw [h3, hv.2.1]; rfl
theorem zgM (z e : Int) : zbd.f (mk z e).1 (mk z e).2.1 (mk z e).2.2 = some (mk (-z) e) := by
 rw [zgY (zaF z e)]
 congr 1
 show mk (-mz z e) (me z e) = _
 rw [← (zcJ z e).1, ← (zcJ z e).2, zgm]
theorem zdh {za ea zb eb : Int} (ha : Rg za ea) (hb : Rg zb eb) : Ev (fun k => zaG.f k (mk za ea).1 (mk za ea).2.1 (mk za ea).2.2 (mk zb eb).1 (mk zb eb).2.1 (mk zb eb).2.2) (mk (za * zb) (ea + eb)) := by
 have a1 := zbp za ea
 have b1 := zbp zb eb
 have a2 := zaW za ea
 have b2 := zaW zb eb
 obtain ⟨h1, h2, h3⟩ := ha
 obtain ⟨h4, h5, h6⟩ := hb
 have e1 : (mk za ea).2.2 = me za ea := rfl
 have e2 : (mk zb eb).2.2 = me zb eb := rfl
 refine zh (zgW (zaF za ea) (zaF zb eb) (by omega) (by omega) (by omega) (by omega) (by omega) (by omega)) ?_
 show mk (mz za ea * mz zb eb) (me za ea + me zb eb) = _
 by_cases c : za = 0
 ·subst c; rw [zce, Int.zero_mul, Int.zero_mul]; rfl
 by_cases c2 : zb = 0
 ·subst c2; rw [zce, Int.mul_zero, Int.mul_zero]; rfl
 obtain ⟨j, p1, p2, _, _⟩ := zbq c ea
 obtain ⟨i, q1, q2, _, _⟩ := zbq c2 eb
 have e3 : za * zb = mz za ea * mz zb eb * 2 ^ (j + i) := by
  conv => lhs; rw [p1, q1]
  rw [Int.pow_add, Int.mul_assoc, Int.mul_assoc]
  congr 1
  rw [Int.mul_left_comm]
 rw [e3, zcH, p2, q2]
 congr 1
 omega
theorem zeE (a e b e' : Int) (h : bl a.natAbs ≤ 1000000000) : Ev (fun k => zS.f k (mk a e).1 (mk a e).2.1 (mk a e).2.2 (mk b e').1 (mk b e').2.1 (mk b e').2.2) (decide (mk a e = mk b e')) := by
 have a1 := zbp a e
 exact zg0 _ _ _ _ _ _ (by omega)
theorem zc1 {f : Int} (h : isF f) (w : Nat) : 1 ≤ cls f w ∧ cls f w ≤ 5 := by
 rw [zdY h]; split
 ·split <;> omega
 ·split
  ·omega
  ·split <;> omega
theorem zfj {f : Int} (h : isF f) {w : Nat} (hw : ¬ w < 2 * sg f) : Ev (fun k => zaE.f k f (w : Int)) (0, 6) := by
 have ho := zcR h w
 unfold zaj at ho
 rw [if_neg hw] at ho
 unfold zaE.f
 refine Ev.bind (ho) ?_; try dsimp only
 exact ze (by simp) (Ev.now _)
theorem zgs {z : Int} (h : z ≠ 0) (e : Int) : ∃ j : Nat, z.natAbs = V (mk z e).2.1 * 2 ^ j ∧ (mk z e).2.2 = e + j ∧ (mk z e).1 = decide (z < 0) ∧ V (mk z e).2.1 ≠ 0 := by
 have hza : z.natAbs ≠ 0 := by omega
 obtain ⟨q, hq⟩ := zbo hza
 have hd : z.natAbs / 2 ^ lw z.natAbs = 2 * q + 1 := by
  have : z.natAbs / 2 ^ lw z.natAbs = 2 ^ lw z.natAbs * (2 * q + 1) / 2 ^ lw z.natAbs := by rw [← hq]
  rw [this, Nat.mul_div_cancel_left _ (zr _)]
 have hm : mk z e = (decide (z < 0), D (z.natAbs / 2 ^ lw z.natAbs), e + (lw z.natAbs : Nat)) := by unfold mk; rw [if_neg h]
 refine ⟨lw z.natAbs, ?_, by rw [hm], by rw [hm], ?_⟩
 ·rw [hm]
  show _ = V (D _) * _
  rw [V_D, hd, Nat.mul_comm]; exact hq
 ·rw [hm]
  show V (D _) ≠ 0
  rw [V_D, hd]; omega
theorem zdU (x y : Nat) : bl (x * y) ≤ bl x + bl y := zaq (by rw [Nat.pow_add]; exact Nat.mul_lt_mul'' (zaD x) (zaD y))
theorem zhu {f : Int} (h : ¬ isF f) (w : Int) : Ev (fun k => zaE.f k f w) (0, 4) := by
 unfold zaE.f
 refine Ev.bind (zfl h _) ?_; try dsimp only
 exact ze (by simp) (Ev.now _)
theorem zeA {f : Int} (h : isF f) (w : Nat) : zbe.f f (w : Int) = some (decide (cls f w < 4)) := by
 have hb := zc1 h w
 unfold zbe.f
 rw [zdf h w, Option.bind_some]
 by_cases c : cls f w = 4
 ·rw [if_neg (fun h => h c)]
  rw [decide_eq_false (by omega)]
 ·rw [if_pos c]
  congr 1
  exact decide_eq_decide.2 (by omega)
structure Sg (z e : Int) : Prop where
 b : bl z.natAbs ≤ 30000
 lo : -39000 ≤ e
 hi : e + (bl z.natAbs : Nat) ≤ 39000
theorem zcM {z e : Int} (h : Sg z e) : Sm (mk z e).1 (mk z e).2.1 (mk z e).2.2 := by
 have h1 := zbp z e
 have h2 := zaW z e
 have h3 : (mk z e).2.2 = me z e := rfl
 obtain ⟨a, b, c⟩ := h
 exact ⟨zaF z e, by omega, by omega, by omega⟩
theorem zgE {za ea zb eb : Int} (ha : Sg za ea) (hb : Sg zb eb) : Ev (fun k => zbj.f k (mk za ea).1 (mk za ea).2.1 (mk za ea).2.2 (mk zb eb).1 (mk zb eb).2.1 (mk zb eb).2.2) (ok3 (zj za ea zb eb)) := by
 refine zh (zfT (zcM ha) (zcM hb)) ?_
 show ok3 (zj (mz za ea) (me za ea) (mz zb eb) (me zb eb)) = _
 rw [zcp, zcZ]
theorem zgK {za ea zb eb : Int} (ha : Sg za ea) (hb : Sg zb eb) : Ev (fun k => zbl.f k (mk za ea).1 (mk za ea).2.1 (mk za ea).2.2 (mk zb eb).1 (mk zb eb).2.1 (mk zb eb).2.2) (ok3 (zj za ea (-zb) eb)) := by
 refine zh (zfV (zcM ha) (zcM hb)) ?_
 show ok3 (zj (mz za ea) (me za ea) (-mz zb eb) (me zb eb)) = _
 rw [zcp, ← (zcJ zb eb).1, ← (zcJ zb eb).2, zcZ]
open Go.RowKit Go.Proofs.YtioialhbjmnndaaGreatDoor.Eng
theorem zeo (A Bl : List Int) (i : Nat) (x : Int) (hx : 0 ≤ x ∧ x < 4294967296) (hB : Dg Bl) (hl : A.length < 1000000000) (hlb : Bl.length < 1000000000) (hi : i < A.length) (res : List Int) : ∀ (b done r pb : List Int) (c : Int), Bl = pb ++ b → done.length = i + pb.length → b.length < r.length → Dg r → 0 ≤ c ∧ c < 4294967296 →
  Ev (fun k => zy.l0 k Bl (done ++ zI x b r c) A A.length ((i + 1 : Nat) : Int)) res →
  Ev (fun k => zy.l1 k Bl (done ++ r) i x c A A.length i Bl Bl.length pb.length) res
 | [], done, r, pb, c, he, hd, hr, hg, hc, H => by
  obtain ⟨y, r, rfl⟩ : ∃ y r', r = y :: r' := by
   cases r with
   | nil => simp at hr
   | cons y r' => exact ⟨y, r', rfl⟩
  have hlen : Bl.length = pb.length := by rw [he]; simp
  refine zg ?_
  have e : wrap64 ((i : Int) + (Bl.length : Int)) = ((i + Bl.length : Nat) : Int) := by unfold wrap64; omega
  simp only [zy.l1, e, zC (n := i) (by omega)]
  clear e
  refine zf (by omega) (ze (by omega) (ze (by simp; omega) ?_))
  have hs : (done ++ y :: r).set (((i + Bl.length : Nat) : Int)).toNat (c % 4294967296) = done ++ zI x [] (y :: r) c := by
   rw [zbu (by omega)]; simp [zI]; omega
  rw [hs]; exact H
 | y :: b, done, r, pb, c, he, hd, hr, hg, hc, H => by
  obtain ⟨o, r, rfl⟩ : ∃ y r', r = y :: r' := by
   cases r with
   | nil => simp at hr
   | cons y r' => exact ⟨y, r', rfl⟩
  have hlen : Bl.length = pb.length + 1 + b.length := by rw [he]; simp; omega
  have hy : 0 ≤ y ∧ y < 4294967296 := by rw [he] at hB; exact hB.right.head
  have ho := hg.head
  have hp := zcI hx hy
  refine zg ?_
  have e : wrap64 ((i : Int) + (pb.length : Int)) = ((done.length : Nat) : Int) := by unfold wrap64; omega
  simp only [zy.l1, e, zC (n := pb.length) (by omega)]
  clear e
  refine ze (by omega) (ze (by omega) (ze (by omega) (ze (by omega) (ze (by simp; omega) (ze (by omega) (ze (by simp; omega) ?_))))))
  have h1 : rd Bl (pb.length : Int) = y := by rw [he]; exact zab rfl
  have h2 : rd (done ++ o :: r) (done.length : Int) = o := zab rfl
  rw [h1, h2, zbu rfl, u64 hx.1 (by omega), u64 hy.1 (by omega), u64 ho.1 (by omega), u64 (n := x * y) hp.1 (by omega), u64 (n := x * y + o) (by omega) (by omega), u64 (n := x * y + o + c) (by omega) (by omega)]
  have := zeo A Bl i x hx hB hl hlb hi res b (done ++ [(x * y + o + c) % 4294967296]) r (pb ++ [y]) ((x * y + o + c) / 4294967296) (by rw [he]; simp) (by simp [hd]; omega) (by simpa using hr) hg.tail (by omega) (by simpa [zI] using H)
  simpa using this
theorem zen (A Bl : List Int) (hA : Dg A) (hB : Dg Bl) (hl : A.length < 1000000000) (hlb : Bl.length < 1000000000) : ∀ (a done r pa : List Int), A = pa ++ a → done.length = pa.length → Dg done → Dg r → r.length = Bl.length + a.length → r.drop Bl.length = List.replicate a.length 0 →
  Ev (fun k => zy.l0 k Bl (done ++ r) A A.length done.length) (D (V (done ++ zaM a Bl r)))
 | [], done, r, pa, he, hd, hg, hr, hrl, hz => by
  have hlen : A.length = done.length := by rw [he, hd]; simp
  refine zg ?_
  simp only [zy.l0]
  refine zf (by omega) ?_
  refine Ev.bind (zbP (hg.app hr) (by simp; simp at hrl; omega)) ?_
  exact Ev.now _
 | x :: a, done, r, pa, he, hd, hg, hr, hrl, hz => by
  have hlen : A.length = done.length + 1 + a.length := by rw [he, hd]; simp; omega
  have hx : 0 ≤ x ∧ x < 4294967296 := by rw [he] at hA; exact hA.right.head
  have hrr := zdk hx Bl r 0 a.length hB hr (by omega) (by simpa using hz)
  refine zg ?_
  simp only [zy.l0]
  refine ze (by omega) (ze (by omega) (ze (by omega) ?_))
  have h1 : rd A (done.length : Int) = x := by rw [he]; exact zab (by omega)
  rw [h1]
  refine zeo A Bl done.length x hx hB hl hlb (by omega) _ Bl done r [] 0 rfl rfl (by simp at hrl; omega) hr (by omega) ?_
  obtain ⟨r0, r', e⟩ : ∃ r0 r', zI x Bl r 0 = r0 :: r' := by
   cases h : zI x Bl r 0 with
   | nil =>
    have hl := hrr.2.2.2
    rw [h] at hl
    simp at hrl hl; omega
   | cons r0 r' => exact ⟨r0, r', rfl⟩
  rw [e] at hrr
  have := zen A Bl hA hB hl hlb a (done ++ [r0]) r' (pa ++ [x]) (by rw [he]; simp) (by simp [hd]) (hg.app (Dg.cons hrr.2.1.head.1 hrr.2.1.head.2 Dg.nil)) hrr.2.1.tail (by have := hrr.2.2.2; simp at this hrl; omega) (by simpa using hrr.2.2.1)
  rw [List.length_append, List.length_singleton, List.append_assoc] at this
  have e2 : done ++ zaM (x :: a) Bl r = done ++ [r0] ++ zaM a Bl r' := by simp [zaM, e]
  rw [e, e2]; simpa using this
theorem zgx {a b : List Int} (ha : Dg a) (hb : Dg b) (la : a.length < 1000000000) (lb : b.length < 1000000000) : Ev (fun k => zy.f k a b) (D (V a * V b)) := by
 unfold zy.f
 have e : wrap64 ((a.length : Int) + (b.length : Int)) = ((a.length + b.length : Nat) : Int) := by unfold wrap64; omega
 simp only [e]
 clear e
 refine ze (by omega) (ze (by omega) ?_)
 have := zen a b ha hb la lb a [] (List.replicate (a.length + b.length) 0) [] rfl rfl Dg.nil (Dg.zeros _) (by simp; omega) (by simp)
 refine zh this ?_
 have h2 := zem a b (List.replicate (a.length + b.length) 0) ha hb (Dg.zeros _) (by simp)
 simp [h2.1, zcY]
theorem zgv {a b : List Int} (ha : Nm a) (hb : Nm b) (la : a.length ≤ 4096) (lb : b.length ≤ 4096) : Ev (fun k => zbO.f k a b) (zar (V a * V b)) := by
 have h1 : may a = true := zak.2 ⟨la, ha⟩
 have h2 : may b = true := zak.2 ⟨lb, hb⟩
 have tail : Ev (fun k => (zy.f k a b).bind fun t => (z9.f t).bind fun bt => some (bt.1, bt.2)) (zar (V a * V b)) := by
  refine Ev.bind (zgx ha.dg hb.dg (by omega) (by omega)) ?_
  exact zi (zet _) (Ev.now _)
 unfold zbO.f
 refine Ev.bind (zcr ha.dg hb.dg (by omega) (by omega)) ?_
 refine zf (by simp [h1, h2]) ?_
 by_cases c1 : a.length > 0
 ·refine ze (by omega) ?_
  by_cases c2 : b.length > 0
  ·refine ze (by omega) ?_
   have e : wrap64 (wrap64 ((a.length : Int) + (b.length : Int)) - 1) = ((a.length + b.length - 1 : Nat) : Int) := by unfold wrap64; omega
   rw [e]
   clear e
   by_cases c3 : a.length + b.length - 1 > 4096
   ·refine ze (by omega) (zh (Ev.now _) ?_)
    have p1 := zcT ha (fun e => by subst e; simp at c1)
    have p2 := zcT hb (fun e => by subst e; simp at c2)
    have p3 := Nat.mul_le_mul p1 p2
    rw [← Nat.pow_add] at p3
    have p4 : (D (V a * V b)).length > 4096 := by
     apply Nat.lt_of_not_le
     intro k
     have p5 := zbM (V a * V b)
     have p6 := Nat.pow_lt_pow_iff_right (a := 4294967296) (by omega) |>.1 (Nat.lt_of_le_of_lt p3 p5)
     omega
    unfold zar; rw [if_pos p4]
   ·exact zf (by omega) tail
  ·exact zf (by omega) tail
 ·exact zf (by omega) tail
theorem zfU {sa sb : Bool} {la lb : List Int} {ea eb : Int} (ha : My sa la ea) (hb : My sb lb eb) (hl : bl (V la) + bl (V lb) ≤ 131000) (h1 : -16000000 ≤ ea + eb) (h2 : ea + eb ≤ 16000000) : Ev (fun k => zbk.f k sa la ea sb lb eb) (ok3 (mk (sv sa (V la) * sv sb (V lb)) (ea + eb))) := by
 have a1 := ha.lo
 have a2 := ha.hi
 have b1 := hb.lo
 have b2 := hb.hi
 have hbl := zdU (V la) (V lb)
 have hlen := zaC (x := V la * V lb) (k := 4096) (by omega)
 have e : wrap64 (ea + eb) = ea + eb := zht (by omega) (by omega) (by omega) (by omega)
 have m1 := zgv ha.dy.nm hb.dy.nm ha.len hb.len
 rw [zdW (by omega)] at m1
 have k1 := zbJ (sa != sb) (zt (V la * V lb)) (by omega) (ea + eb)
 rw [V_D, zbN (by omega) (by omega), ← ze2] at k1
 have hne : (decide (¬ sa = sb)) = (sa != sb) := by cases sa <;> cases sb <;> rfl
 unfold zbk.f
 refine Ev.bind (zc3 ha hb) ?_; try dsimp only
 refine zf (by simp) ?_
 refine Ev.bind (m1) ?_; try dsimp only
 refine zf (by simp) ?_
 rw [e, hne]
 clear e
 refine Ev.bind (k1) ?_; try dsimp only
 exact Ev.now _
theorem zep {z e : Int} (hb : bl z.natAbs ≤ 131072) (h1 : -16777216 ≤ e) (h2 : e + (bl z.natAbs : Nat) ≤ 16777216) : My (mk z e).1 (mk z e).2.1 (mk z e).2.2 := by
 have a1 := zbp z e
 have a2 := zaW z e
 have e1 : (mk z e).2.2 = me z e := rfl
 exact ⟨zaF z e, by omega, by omega, by omega⟩
theorem zgl (za ea zb eb : Int) : mk (mz za ea * mz zb eb) (me za ea + me zb eb) = mk (za * zb) (ea + eb) := by
 by_cases c : za = 0
 ·subst c; rw [zce, Int.zero_mul, Int.zero_mul]; rfl
 by_cases c2 : zb = 0
 ·subst c2; rw [zce, Int.mul_zero, Int.mul_zero]; rfl
 obtain ⟨j, p1, p2, _, _⟩ := zbq c ea
 obtain ⟨i, q1, q2, _, _⟩ := zbq c2 eb
 have e3 : za * zb = mz za ea * mz zb eb * 2 ^ (j + i) := by
  conv => lhs; rw [p1, q1]
  rw [Int.pow_add, Int.mul_assoc, Int.mul_assoc]
  congr 1
  rw [Int.mul_left_comm]
 rw [e3, zcH, p2, q2]
 congr 1
 omega
theorem zdE (z e : Int) : bl (V (mk z e).2.1) ≤ bl z.natAbs := by
 by_cases c : z = 0
 ·subst c; exact Nat.zero_le _
 ·obtain ⟨j, j1, _⟩ := zgs c e
  rw [j1]
  have h := zb4 (V (mk z e).2.1) j
  have hp : V (mk z e).2.1 ≤ V (mk z e).2.1 * 2 ^ j := Nat.le_mul_of_pos_right _ (zr j)
  exact zcs hp
theorem zgJ {za ea zb eb : Int} (hb : bl za.natAbs + bl zb.natAbs ≤ 131000) (h1 : -8000000 ≤ ea) (h2 : ea ≤ 7000000) (h3 : -8000000 ≤ eb) (h4 : eb ≤ 7000000) : Ev (fun k => zbk.f k (mk za ea).1 (mk za ea).2.1 (mk za ea).2.2 (mk zb eb).1 (mk zb eb).2.1 (mk zb eb).2.2) (ok3 (mk (za * zb) (ea + eb))) := by
 have a2 := zaW za ea
 have b2 := zaW zb eb
 have a3 := zdE za ea
 have b3 := zdE zb eb
 have e1 : (mk za ea).2.2 = me za ea := rfl
 have e2 : (mk zb eb).2.2 = me zb eb := rfl
 refine zh (zfU (zep (z := za) (e := ea) (by omega) (by omega) (by omega)) (zep (z := zb) (e := eb) (by omega) (by omega) (by omega)) (by omega) (by omega) (by omega)) ?_
 show ok3 (mk (mz za ea * mz zb eb) (me za ea + me zb eb)) = _
 rw [zgl]
theorem zfd {f : Int} (h : isF f) (w : Nat) : Ev (fun k => zaX.f k f (w : Int)) (zaj f w) := by
 unfold zaX.f
 exact Ev.bind (zcR h w) (Ev.now _)
theorem zhr {f : Int} (h : ¬ isF f) (w : Int) : Ev (fun k => zaX.f k f w) 4 := by
 unfold zaX.f
 exact Ev.bind (zfl h _) (Ev.now _)
theorem zgI {f : Int} (h : isF f) (a b : Nat) : Ev (fun k => za3.f k f (a : Int) (b : Int)) (if a < 2 * sg f ∧ b < 2 * sg f then 0 else 6) := by
 unfold za3.f
 have ha := zfd h a
 have hb := zfd h b
 unfold zaj at ha hb
 by_cases c : a < 2 * sg f
 ·rw [if_pos c] at ha
  refine Ev.bind ha (zf (by simp) (Ev.bind hb ?_))
  by_cases d : b < 2 * sg f
  ·rw [if_pos d, if_pos ⟨c, d⟩]; exact Ev.now _
  ·rw [if_neg d, if_neg (fun hh => d hh.2)]; exact Ev.now _
 ·rw [if_neg c] at ha
  rw [if_neg (fun hh => c hh.1)]
  exact Ev.bind ha (ze (by simp) (Ev.now _))
theorem zgH {f : Int} (h : ¬ isF f) (a b : Int) : Ev (fun k => za3.f k f a b) 4 := by
 unfold za3.f
 exact Ev.bind (zhr h a) (ze (by simp) (Ev.now _))
theorem zeQ {f : Int} (h : isF f) (l : List (Nat × Nat)) (hl : l.length ≤ 1000) (hw : ∀ p ∈ l, p.1 < 18446744073709551616 ∧ p.2 < 18446744073709551616) : ∀ n i : Nat, i + n = l.length →
  Ev (fun k => z7.l0 k f (l.map fun p => ((p.1 : Int), (p.2 : Int))) (i : Int)) (if ∀ p ∈ l.drop i, p.1 < 2 * sg f ∧ p.2 < 2 * sg f then 0 else 6)
 | 0, i, hi => by
  refine zg ?_; simp only [z7.l0]
  rw [List.drop_eq_nil_of_le (by omega), if_pos (fun p hp => by cases hp)]
  exact zf (by rw [List.length_map]; omega) (Ev.now _)
 | n + 1, i, hi => by
  have hd : l.drop i = l[i] :: l.drop (i + 1) := List.drop_eq_getElem_cons (by omega)
  have hr : rdT [.i .u64, .i .u64] (l.map fun p => ((p.1 : Int), (p.2 : Int))) (i : Int) = ((l[i].1 : Int), (l[i].2 : Int)) := by
   unfold rdT
   rw [Int.toNat_natCast, List.getD_eq_getElem?_getD, List.getElem?_map, List.getElem?_eq_getElem (by omega)]
   rfl
  obtain ⟨b1, b2⟩ := hw l[i] (List.getElem_mem _)
  have e1 : wrap64 ((i : Int) + 1) = ((i + 1 : Nat) : Int) := by rw [w64 (by omega) (by omega)]; omega
  have ih := zeQ h l hl hw n (i + 1) (by omega)
  refine zg ?_; simp only [z7.l0]
  rw [hr, e1, hd]
  refine ze (by rw [List.length_map]; omega) (ze (by omega) (ze (by rw [List.length_map]; omega) (zi (zeC h b1) ?_)))
  by_cases c : l[i].1 < 2 * sg f
  ·refine zf (by unfold zaj; rw [if_pos c]; simp) (ze (by omega) (ze (by rw [List.length_map]; omega) (zi (zeC h b2) ?_)))
   by_cases d : l[i].2 < 2 * sg f
   ·refine zf (by unfold zaj; rw [if_pos d]; simp) ?_
    refine zh ih ?_
    by_cases e : ∀ p ∈ l.drop (i + 1), p.1 < 2 * sg f ∧ p.2 < 2 * sg f
    ·rw [if_pos e, if_pos (fun p hp => by
      rcases List.mem_cons.1 hp with rfl | hp
      ·exact ⟨c, d⟩
      ·exact e p hp)]
    ·rw [if_neg e, if_neg (fun hh => e (fun p hp => hh p (List.mem_cons_of_mem _ hp)))]
   ·refine ze (by unfold zaj; rw [if_neg d]; simp) ?_
    rw [if_neg (fun hh => d (hh _ (List.mem_cons_self)).2)]
    exact Ev.now _
  ·refine ze (by unfold zaj; rw [if_neg c]; simp) ?_
   rw [if_neg (fun hh => c (hh _ (List.mem_cons_self)).1)]
   exact Ev.now _
theorem zg7 {f : Int} (h : isF f) (l : List (Nat × Nat)) (hl : l.length ≤ 1000) (hw : ∀ p ∈ l, p.1 < 18446744073709551616 ∧ p.2 < 18446744073709551616) :
  Ev (fun k => z7.f k f (l.map fun p => ((p.1 : Int), (p.2 : Int)))) (if ∀ p ∈ l, p.1 < 2 * sg f ∧ p.2 < 2 * sg f then 0 else 6) := by
 unfold z7.f
 refine zi (zdg f) ?_
 rw [decide_eq_true h]
 exact zf (by simp) (zeQ h l hl hw l.length 0 (by omega))
theorem zg6 {f : Int} (h : ¬ isF f) (l : List (Int × Int)) : Ev (fun k => z7.f k f l) 4 := by
 unfold z7.f
 refine zi (zdg f) ?_
 rw [decide_eq_false h]
 exact ze rfl (Ev.now _)
def pcl (f : Int) (a b : Nat) : Int := if cls f a = 4 ∨ cls f b = 4 then 3 else if cls f a = 5 ∨ cls f b = 5 then 4 else if cls f a = 1 ∧ cls f b = 1 then 1 else 2
theorem zey (x y : Int) (u : Bool) : Ev (fun k => zz.j2 k x y u) (if u = true then (4, 0) else if x = 1 ∧ y = 1 then (1, 0) else (2, 0)) := by
 refine zg ?_; simp only [zz.j2]
 cases u
 ·refine zf (by simp) ?_
  rw [if_neg (show ¬ (false = true) by simp)]
  by_cases c : x = 1
  ·by_cases d : y = 1
   ·rw [if_pos (show x = 1 ∧ y = 1 from ⟨c, d⟩)]; exact ze c (ze d (Ev.now _))
   ·rw [if_neg (show ¬ (x = 1 ∧ y = 1) from fun hh => d hh.2)]; exact ze c (zf d (Ev.now _))
  ·rw [if_neg (show ¬ (x = 1 ∧ y = 1) from fun hh => c hh.1)]; exact zf c (Ev.now _)
 ·exact ze rfl (Ev.now _)
theorem zex (f x y : Int) (u : Bool) : Ev (fun k => zz.j1 k x y u) (if u = true then (3, 0) else if x = 5 ∨ y = 5 then (4, 0) else if x = 1 ∧ y = 1 then (1, 0) else (2, 0)) := by
 refine zg ?_; simp only [zz.j1]
 cases u
 ·refine zf (by simp) ?_
  rw [if_neg (show ¬ (false = true) by simp)]
  by_cases c : x = 5
  ·rw [if_pos (show x = 5 ∨ y = 5 from .inl c)]
   refine ze c (zh (zey x y true) ?_)
   rw [if_pos rfl]
  ·refine zf c (zh (zey x y _) ?_)
   by_cases d : y = 5
   ·rw [decide_eq_true d, if_pos (show true = true from rfl), if_pos (show x = 5 ∨ y = 5 from .inr d)]
   ·rw [decide_eq_false d, if_neg (show ¬ (false = true) by simp), if_neg (show ¬ (x = 5 ∨ y = 5) from fun hh => hh.elim c d)]
 ·exact ze rfl (Ev.now _)
theorem zdd {f : Int} (h : isF f) {a b : Nat} (ha : a < 2 * sg f) (hb : b < 2 * sg f) : Ev (fun k => zz.f k f (a : Int) (b : Int)) (pcl f a b, 0) := by
 unfold zz.f pcl
 refine Ev.bind (zdv h ha) (zf (by simp) (Ev.bind (zdv h hb) (zf (by simp) ?_)))
 dsimp only
 by_cases c : cls f a = 4
 ·rw [if_pos (.inl c)]
  refine ze c (zh (zex f _ _ true) ?_)
  rw [if_pos rfl]
 ·refine zf c (zh (zex f _ _ _) ?_)
  by_cases d : cls f b = 4
  ·rw [decide_eq_true d, if_pos (show true = true from rfl), if_pos (.inr d)]
  ·rw [decide_eq_false d, if_neg (show ¬ (false = true) by simp), if_neg (show ¬ (cls f a = 4 ∨ cls f b = 4) from fun hh => hh.elim c d)]
   by_cases c5 : cls f a = 5 ∨ cls f b = 5
   ·rw [if_pos c5, if_pos c5]
   ·rw [if_neg c5, if_neg c5]
    split <;> rfl
theorem zgF {f : Int} (h : ¬ isF f) (a b : Int) : Ev (fun k => zz.f k f a b) (0, 4) := by
 unfold zz.f
 exact Ev.bind (zhu h a) (ze (by simp) (Ev.now _))
theorem zgG {f : Int} (h : isF f) {a b : Nat} (hw : ¬ (a < 2 * sg f ∧ b < 2 * sg f)) : Ev (fun k => zz.f k f (a : Int) (b : Int)) (0, 6) := by
 unfold zz.f
 by_cases c : a < 2 * sg f
 ·exact Ev.bind (zdv h c) (zf (by simp) (Ev.bind (zfj h (fun hh => hw ⟨c, hh⟩)) (ze (by simp) (Ev.now _))))
 ·exact Ev.bind (zfj h c) (ze (by simp) (Ev.now _))
theorem zcL {f : Int} (h : isF f) (a b : Nat) : zbg.f f (a : Int) (b : Int) = some (pcl f a b) := by
 unfold zbg.f pcl
 rw [zdf h, Option.bind_some, zdf h, Option.bind_some]
 generalize cls f a = x
 generalize cls f b = y
 by_cases c : x = 4
 ·simp [c]
 by_cases d : y = 4
 ·simp [c, d]
 by_cases c5 : x = 5
 ·simp [c5, d]
 by_cases d5 : y = 5
 ·simp [c, c5, d5]
 by_cases c1 : x = 1
 ·by_cases d1 : y = 1
  ·simp [c1, d1]
  ·simp [c1, d, d5, d1]
 ·simp [c, d, c5, d5, c1]
def z8 (f : Int) (a b : Nat) : Prop := cls f a < 4 ∧ cls f b < 4
instance (f : Int) (a b : Nat) : Decidable (z8 f a b) := inferInstanceAs (Decidable (_ ∧ _))
theorem zbS {f : Int} (h : isF f) (a b : Nat) : zbh.f f (a : Int) (b : Int) = some (decide (z8 f a b)) := by
 unfold zbh.f z8
 rw [zeA h, Option.bind_some, zeA h, Option.bind_some]
 by_cases c : cls f a < 4
 ·rw [if_pos (decide_eq_true c)]
  congr 1
  by_cases d : cls f b < 4 <;> simp [c, d]
 ·rw [if_neg (by simpa using c)]
  simp [c]
theorem zez {f : Int} (h : isF f) (a b : Nat) : pcl f a b > 2 ↔ ¬ z8 f a b := by
 have h1 := zc1 h a
 have h2 := zc1 h b
 unfold pcl z8
 split
 ·omega
 ·split
  ·omega
  ·split <;> omega
def zB (f : Int) (l : List (Nat × Nat)) : Int := if ∀ p ∈ l, p.1 < 2 * sg f ∧ p.2 < 2 * sg f then (if ∀ p ∈ l, z8 f p.1 p.2 then 0 else 7) else 6
theorem zeI (l : List (Nat × Nat)) {i : Nat} (hi : i < l.length) : rdT [.i .u64, .i .u64] (l.map fun p => ((p.1 : Int), (p.2 : Int))) (i : Int) = ((l[i].1 : Int), (l[i].2 : Int)) := by
 unfold rdT
 rw [Int.toNat_natCast, List.getD_eq_getElem?_getD, List.getElem?_map, List.getElem?_eq_getElem hi]
 rfl
theorem zeb {f : Int} (h : isF f) (l : List (Nat × Nat)) (hl : l.length ≤ 1000) (hw : ∀ p ∈ l, p.1 < 2 * sg f ∧ p.2 < 2 * sg f) : ∀ n i : Nat, i + n = l.length →
  Ev (fun k => zu.l1 k f (l.map fun p => ((p.1 : Int), (p.2 : Int))) (l.length : Int) (i : Int)) (if ∀ p ∈ l.drop i, z8 f p.1 p.2 then 0 else 7)
 | 0, i, hi => by
  refine zg ?_; simp only [zu.l1]
  rw [List.drop_eq_nil_of_le (by omega), if_pos (fun p hp => by cases hp)]
  exact zf (by omega) (Ev.now _)
 | n + 1, i, hi => by
  have hd : l.drop i = l[i] :: l.drop (i + 1) := List.drop_eq_getElem_cons (by omega)
  have hr := zeI l (i := i) (by omega)
  have e1 : wrap64 ((i : Int) + 1) = ((i + 1 : Nat) : Int) := by rw [w64 (by omega) (by omega)]; omega
  have ih := zeb h l hl hw n (i + 1) (by omega)
  obtain ⟨b1, b2⟩ := hw l[i] (List.getElem_mem _)
  refine zg ?_; simp only [zu.l1]
  rw [hr, e1, hd]
  clear e1
  refine ze (by omega) (ze (by omega) (ze (by rw [List.length_map]; omega) (Ev.bind (zdd h b1 b2) ?_)))
  dsimp only
  by_cases c : z8 f l[i].1 l[i].2
  ·refine zf (fun hh => (zez h _ _).1 hh c) (zh ih ?_)
   by_cases e : ∀ p ∈ l.drop (i + 1), z8 f p.1 p.2
   ·rw [if_pos e, if_pos (fun p hp => by
     rcases List.mem_cons.1 hp with rfl | hp
     ·exact c
     ·exact e p hp)]
   ·rw [if_neg e, if_neg (fun hh => e (fun p hp => hh p (List.mem_cons_of_mem _ hp)))]
  ·refine ze ((zez h _ _).2 c) ?_
   rw [if_neg (fun hh => c (hh _ List.mem_cons_self))]
   exact Ev.now _
theorem zea {f : Int} (h : isF f) (l : List (Nat × Nat)) (hl : l.length ≤ 1000) : ∀ n i : Nat, i + n = l.length → (∀ p ∈ l.take i, p.1 < 2 * sg f ∧ p.2 < 2 * sg f) →
  Ev (fun k => zu.l0 k f (l.map fun p => ((p.1 : Int), (p.2 : Int))) (l.map fun p => ((p.1 : Int), (p.2 : Int))) (l.length : Int) (i : Int)) (zB f l)
 | 0, i, hi, hw => by
  rw [List.take_of_length_le (by omega)] at hw
  have h1 := zeb h l hl hw l.length 0 (by omega)
  have e0 : ((l.map fun p : Nat × Nat => ((p.1 : Int), (p.2 : Int))).length : Int) = (l.length : Int) := by rw [List.length_map]
  refine zg ?_; simp only [zu.l0]
  rw [e0]
  refine zf (by omega) (zh h1 ?_)
  unfold zB
  rw [if_pos hw]; rfl
 | n + 1, i, hi, hw => by
  have hr := zeI l (i := i) (by omega)
  have e1 : wrap64 ((i : Int) + 1) = ((i + 1 : Nat) : Int) := by rw [w64 (by omega) (by omega)]; omega
  have ht : l.take (i + 1) = l.take i ++ [l[i]] := by rw [List.take_succ_eq_append_getElem]
  refine zg ?_; simp only [zu.l0]
  rw [hr, e1]
  clear e1
  refine ze (by omega) (ze (by omega) (ze (by rw [List.length_map]; omega) (Ev.bind (zgI h l[i].1 l[i].2) ?_)))
  by_cases c : l[i].1 < 2 * sg f ∧ l[i].2 < 2 * sg f
  ·rw [if_pos c]
   refine zf (by simp) (zea h l hl n (i + 1) (by omega) ?_)
   rw [ht]
   intro p hp
   rcases List.mem_append.1 hp with hp | hp
   ·exact hw p hp
   ·rw [List.mem_singleton.1 hp]; exact c
  ·rw [if_neg c]
   refine ze (by simp) ?_
   unfold zB
   rw [if_neg (fun hh => c (hh _ (List.getElem_mem _)))]
   exact Ev.now _
theorem zca {f : Int} (h : isF f) (l : List (Nat × Nat)) (hl : l.length ≤ 1000) : Ev (fun k => zu.f k f (l.map fun p => ((p.1 : Int), (p.2 : Int)))) (zB f l) := by
 unfold zu.f
 have h1 := zea h l hl l.length 0 (by omega) (fun p hp => by cases hp)
 have e0 : ((l.map fun p : Nat × Nat => ((p.1 : Int), (p.2 : Int))).length : Int) = (l.length : Int) := by rw [List.length_map]
 rw [e0]
 exact h1
theorem zec {f : Int} (h : ¬ isF f) (p : Int × Int) (l : List (Int × Int)) : Ev (fun k => zu.f k f (p :: l)) 4 := by
 unfold zu.f
 have hr : rdT [.i .u64, .i .u64] (p :: l) 0 = p := rfl
 refine zg ?_; simp only [zu.l0]
 rw [hr]
 refine ze (by rw [List.length_cons]; omega) (ze (by omega) (ze (by rw [List.length_cons]; omega) (Ev.bind (zgH h p.1 p.2) ?_)))
 exact ze (by simp) (Ev.now _)
theorem zgc (m : Nat) : zbc.f (m + 100) = some true := by kernel_rfl
theorem zc7 : Ev (fun k => zbc.f k) true := by
 refine ⟨100, fun k hk => ?_⟩
 obtain ⟨m, rfl⟩ : ∃ m, k = m + 100 := ⟨k - 100, by omega⟩
 exact zgc m
def zv (f : Int) (w : Nat) : Int := sv (z4 f w) (zG f w)
structure Wz (z e : Int) : Prop where
 b : bl z.natAbs ≤ 64
 lo : -1074 ≤ e
 hi : e ≤ 3000
theorem zw {f : Int} (h : isF f) (w : Nat) : Wz (zv f w) (wex f w) := by
 have h1 := zfi h w
 have h2 := zfg h w
 refine ⟨?_, h2.1, h2.2⟩
 unfold zv
 rw [zcN]
 exact zaq h1
theorem zfI (x y : Int) : bl (x * y).natAbs ≤ bl x.natAbs + bl y.natAbs := by
 rw [Int.natAbs_mul]; exact zdU _ _
theorem zfH (x y : Int) : bl (x + y).natAbs ≤ max (bl x.natAbs) (bl y.natAbs) + 1 :=
 Nat.le_trans (zcs (Int.natAbs_add_le x y)) (zdQ _ _)
def zcm (za ea zb eb : Int) : Int := al za ea (min ea eb) + al zb eb (min ea eb)
theorem zdR (z e m : Int) : bl (al z e m).natAbs ≤ bl z.natAbs + (e - m).toNat := by
 rw [zfv]; exact zb4 _ _
theorem zfJ (za ea zb eb : Int) {n : Nat} (ha : bl za.natAbs + (ea - min ea eb).toNat ≤ n) (hb : bl zb.natAbs + (eb - min ea eb).toNat ≤ n) : bl (zcm za ea zb eb).natAbs ≤ n + 1 := by
 have h1 := zdR za ea (min ea eb)
 have h2 := zdR zb eb (min ea eb)
 have h3 := zfH (al za ea (min ea eb)) (al zb eb (min ea eb))
 unfold zcm
 omega
structure W2 (z e : Int) : Prop where
 b : bl z.natAbs ≤ 128
 lo : -2148 ≤ e
 hi : e ≤ 6000
theorem Wz.mul {za ea zb eb : Int} (ha : Wz za ea) (hb : Wz zb eb) : W2 (za * zb) (ea + eb) := by
 have h1 := zfI za zb
 obtain ⟨a1, a2, a3⟩ := ha
 obtain ⟨b1, b2, b3⟩ := hb
 exact ⟨by omega, by omega, by omega⟩
theorem W2.sg {z e : Int} (h : W2 z e) : Sg z e := by
 obtain ⟨a1, a2, a3⟩ := h
 exact ⟨by omega, by omega, by omega⟩
theorem W2.rg {z e : Int} (h : W2 z e) : Rg z e := by
 obtain ⟨a1, a2, a3⟩ := h
 exact ⟨by omega, by omega, by omega⟩
theorem W2.neg {z e : Int} (h : W2 z e) : W2 (-z) e := by
 obtain ⟨a1, a2, a3⟩ := h
 exact ⟨by rw [Int.natAbs_neg]; exact a1, a2, a3⟩
theorem Wz.rg {z e : Int} (h : Wz z e) : Rg z e := by
 obtain ⟨a1, a2, a3⟩ := h
 exact ⟨by omega, by omega, by omega⟩
theorem W2.sum {za ea zb eb : Int} (ha : W2 za ea) (hb : W2 zb eb) : bl (zcm za ea zb eb).natAbs ≤ 10000 := by
 obtain ⟨a1, a2, a3⟩ := ha
 obtain ⟨b1, b2, b3⟩ := hb
 exact Nat.le_trans (zfJ za ea zb eb (n := 9000) (by omega) (by omega)) (by omega)
theorem zcB {f : Int} (h : isF f) {a b : Nat} (ha : a < 2 * sg f) (hb : b < 2 * sg f) (hf : z8 f a b) : Ev (fun k => zav.f k f (a : Int) (b : Int)) ((mk (zv f a) (wex f a)).1, (mk (zv f a) (wex f a)).2.1, (mk (zv f a) (wex f a)).2.2, (mk (zv f b) (wex f b)).1, (mk (zv f b) (wex f b)).2.1, (mk (zv f b) (wex f b)).2.2) := by
 unfold zav.f
 exact Ev.bind (zfk h ha hf.1) (Ev.bind (zfk h hb hf.2) (Ev.now _))
theorem zaL {za ea zb eb : Int} (ha : Wz za ea) (hb : Wz zb eb) : Ev (fun k => zA.f k (mk za ea).1 (mk za ea).2.1 (mk za ea).2.2 (mk zb eb).1 (mk zb eb).2.1 (mk zb eb).2.2) (mk (za * zb) (ea + eb)) := by
 obtain ⟨a1, a2, a3⟩ := ha
 obtain ⟨b1, b2, b3⟩ := hb
 unfold zA.f
 exact Ev.bind (zgJ (by omega) (by omega) (by omega) (by omega) (by omega)) (Ev.now _)
theorem zc6 {za ea zb eb : Int} (ha : W2 za ea) (hb : W2 zb eb) : Ev (fun k => zaK.f k (mk za ea).1 (mk za ea).2.1 (mk za ea).2.2 (mk zb eb).1 (mk zb eb).2.1 (mk zb eb).2.2) (zj za ea zb eb) := by
 unfold zaK.f
 exact Ev.bind (zgE ha.sg hb.sg) (Ev.now _)
theorem zef {za ea zb eb : Int} (ha : W2 za ea) (hb : W2 zb eb) : Ev (fun k => zaB.f k (mk za ea).1 (mk za ea).2.1 (mk za ea).2.2 (mk zb eb).1 (mk zb eb).2.1 (mk zb eb).2.2) (zj za ea (-zb) eb) := by
 unfold zaB.f
 exact Ev.bind (zgK ha.sg hb.sg) (Ev.now _)
def prR (f : Int) (a b c d : Nat) : Bool × List Int × Int := zj (zv f a * zv f c) (wex f a + wex f c) (-(zv f b * zv f d)) (wex f b + wex f d)
def prI (f : Int) (a b c d : Nat) : Bool × List Int × Int := zj (zv f a * zv f d) (wex f a + wex f d) (zv f b * zv f c) (wex f b + wex f c)
def quR (f : Int) (a b c d : Nat) : Bool × List Int × Int := zj (zv f a * zv f c) (wex f a + wex f c) (zv f b * zv f d) (wex f b + wex f d)
def quI (f : Int) (a b c d : Nat) : Bool × List Int × Int := zj (zv f b * zv f c) (wex f b + wex f c) (-(zv f a * zv f d)) (wex f a + wex f d)
def quD (f : Int) (c d : Nat) : Bool × List Int × Int := zj (zv f c * zv f c) (wex f c + wex f c) (zv f d * zv f d) (wex f d + wex f d)
theorem zf1 {f : Int} (h : isF f) {a b c d : Nat} (hw : ∀ p ∈ [(a, b), (c, d)], p.1 < 2 * sg f ∧ p.2 < 2 * sg f) (hf : ∀ p ∈ [(a, b), (c, d)], z8 f p.1 p.2) :
  Ev (fun k => zaJ.f k f (a : Int) (b : Int) (c : Int) (d : Int)) ((prR f a b c d).1, (prR f a b c d).2.1, (prR f a b c d).2.2, (prI f a b c d).1, (prI f a b c d).2.1, (prI f a b c d).2.2, 0) := by
 have ho := zca h [(a, b), (c, d)] (by simp)
 have e0 : zB f [(a, b), (c, d)] = 0 := by unfold zB; rw [if_pos hw, if_pos hf]
 rw [e0] at ho
 have w1 := hw (a, b) (by simp)
 have w2 := hw (c, d) (by simp)
 have f1 := hf (a, b) (by simp)
 have f2 := hf (c, d) (by simp)
 have za := zw h a
 have zb := zw h b
 have zc := zw h c
 have zd := zw h d
 unfold zaJ.f
 refine Ev.bind ho (zf (by simp) (Ev.bind (zcB h w1.1 w1.2 f1) (Ev.bind (zcB h w2.1 w2.2 f2) ?_)))
 dsimp only
 refine Ev.bind (zaL za zc) (Ev.bind (zaL zb zd) (Ev.bind (zef (za.mul zc) (zb.mul zd)) (Ev.bind (zaL za zd) (Ev.bind (zaL zb zc) (Ev.bind (zc6 (za.mul zd) (zb.mul zc)) ?_)))))
 exact Ev.now _
theorem zd9 {f : Int} (h : isF f) (a b c d : Nat) (hn : zB f [(a, b), (c, d)] ≠ 0) :
  Ev (fun k => zaJ.f k f (a : Int) (b : Int) (c : Int) (d : Int)) (false, [], 0, false, [], 0, zB f [(a, b), (c, d)]) := by
 have ho := zca h [(a, b), (c, d)] (by simp)
 unfold zaJ.f
 exact Ev.bind ho (ze hn (Ev.now _))
theorem zf0 {f : Int} (h : ¬ isF f) (a b c d : Int) : Ev (fun k => zaJ.f k f a b c d) (false, [], 0, false, [], 0, 4) := by
 unfold zaJ.f
 exact Ev.bind (zec h _ _) (ze (by simp) (Ev.now _))
theorem zf7 {za ea zb eb : Int} (ha : Wz za ea) (hb : Wz zb eb) : Ev (fun k => zaV.f k (mk za ea).1 (mk za ea).2.1 (mk za ea).2.2 (mk zb eb).1 (mk zb eb).2.1 (mk zb eb).2.2) (zj (za * za) (ea + ea) (zb * zb) (eb + eb)) := by
 unfold zaV.f
 exact Ev.bind (zaL ha ha) (Ev.bind (zaL hb hb) (Ev.bind (zc6 (ha.mul ha) (hb.mul hb)) (Ev.now _)))
theorem zbQ (f : Int) (a b c d a1 a2 : _) (a3 a4 a5 a6 a7 a8 a9 : _) {e : Int} (he : e ≠ 0) : Ev (fun k => zH.j1 k f a b c d a1 a2 a3 a4 a5 a6 a7 a8 a9 e) (false, [], 0, false, [], 0, false, [], 0, e) := by
 refine zg ?_; simp only [zH.j1]
 exact ze he (Ev.now _)
theorem zf4 {f : Int} (h : isF f) {a b c d : Nat} (hw : ∀ p ∈ [(a, b), (c, d)], p.1 < 2 * sg f ∧ p.2 < 2 * sg f) (hf : ∀ p ∈ [(a, b), (c, d)], z8 f p.1 p.2) (h0 : pcl f c d ≠ 1) :
  Ev (fun k => zH.f k f (a : Int) (b : Int) (c : Int) (d : Int)) ((quR f a b c d).1, (quR f a b c d).2.1, (quR f a b c d).2.2, (quI f a b c d).1, (quI f a b c d).2.1, (quI f a b c d).2.2, (quD f c d).1, (quD f c d).2.1, (quD f c d).2.2, 0) := by
 have ho := zca h [(a, b), (c, d)] (by simp)
 have e0 : zB f [(a, b), (c, d)] = 0 := by unfold zB; rw [if_pos hw, if_pos hf]
 rw [e0] at ho
 have w1 := hw (a, b) (by simp)
 have w2 := hw (c, d) (by simp)
 have f1 := hf (a, b) (by simp)
 have f2 := hf (c, d) (by simp)
 have za := zw h a
 have zb := zw h b
 have zc := zw h c
 have zd := zw h d
 unfold zH.f
 refine Ev.bind ho (Ev.bind (zdd h w2.1 w2.2) (zf h0 ?_))
 refine zg ?_; simp only [zH.j1]
 refine zf (by simp) (Ev.bind (zcB h w1.1 w1.2 f1) (Ev.bind (zcB h w2.1 w2.2 f2) ?_))
 dsimp only
 refine Ev.bind (zaL za zc) (Ev.bind (zaL zb zd) (Ev.bind (zc6 (za.mul zc) (zb.mul zd)) (Ev.bind (zaL zb zc) (Ev.bind (zaL za zd) (Ev.bind (zef (zb.mul zc) (za.mul zd)) (Ev.bind (zf7 zc zd) ?_))))))
 exact Ev.now _
def quE (f : Int) (a b c d : Nat) : Int := if pcl f c d = 1 ∧ (zB f [(a, b), (c, d)] = 0 ∨ zB f [(a, b), (c, d)] = 7) then 11 else zB f [(a, b), (c, d)]
theorem zc5 {f : Int} (h : isF f) {a b c d : Nat} (hw : c < 2 * sg f ∧ d < 2 * sg f) (hn : quE f a b c d ≠ 0) :
  Ev (fun k => zH.f k f (a : Int) (b : Int) (c : Int) (d : Int)) (false, [], 0, false, [], 0, false, [], 0, quE f a b c d) := by
 have ho := zca h [(a, b), (c, d)] (by simp)
 unfold zH.f
 refine Ev.bind ho (Ev.bind (zdd h hw.1 hw.2) ?_)
 dsimp only
 unfold quE at hn ⊢
 by_cases c1 : pcl f c d = 1
 ·refine ze c1 ?_
  by_cases c2 : zB f [(a, b), (c, d)] = 0
  ·rw [if_pos ⟨c1, .inl c2⟩]
   exact ze c2 (zbQ _ _ _ _ _ _ _ _ _ _ _ _ _ _ (by omega))
  ·refine zf c2 ?_
   by_cases c3 : zB f [(a, b), (c, d)] = 7
   ·rw [if_pos ⟨c1, .inr c3⟩]
    exact ze c3 (zbQ _ _ _ _ _ _ _ _ _ _ _ _ _ _ (by omega))
   ·rw [if_neg (fun hh => hh.2.elim c2 c3)]
    exact zf c3 (zbQ _ _ _ _ _ _ _ _ _ _ _ _ _ _ c2)
 ·rw [if_neg (fun hh => c1 hh.1)] at hn ⊢
  exact zf c1 (zbQ _ _ _ _ _ _ _ _ _ _ _ _ _ _ hn)
theorem zf3 {f : Int} (h : isF f) {a b c d : Nat} (hw : ¬ (c < 2 * sg f ∧ d < 2 * sg f)) :
  Ev (fun k => zH.f k f (a : Int) (b : Int) (c : Int) (d : Int)) (false, [], 0, false, [], 0, false, [], 0, 6) := by
 have ho := zca h [(a, b), (c, d)] (by simp)
 have e0 : zB f [(a, b), (c, d)] = 6 := by unfold zB; rw [if_neg (fun hh => hw (hh (c, d) (by simp)))]
 rw [e0] at ho
 unfold zH.f
 refine Ev.bind ho (Ev.bind (zgG h hw) (zf (by simp) ?_))
 exact zbQ _ _ _ _ _ _ _ _ _ _ _ _ _ _ (by omega)
theorem zf2 {f : Int} (h : ¬ isF f) (a b c d : Int) : Ev (fun k => zH.f k f a b c d) (false, [], 0, false, [], 0, false, [], 0, 4) := by
 unfold zH.f
 refine Ev.bind (zec h _ _) (Ev.bind (zgF h _ _) (zf (by simp) ?_))
 exact zbQ _ _ _ _ _ _ _ _ _ _ _ _ _ _ (by omega)
theorem zeP {f : Int} (h : isF f) (w : Nat) : zbi.f f (w : Int) = some (z4 f w) := by
 unfold zbi.f
 rw [zdi h, Option.bind_some]
theorem za4 {f : Int} (h : isF f) (a b : Nat) (s : Bool) : Ev (fun k => zK.f k f (a : Int) (b : Int) s) ((mk (if s = true then -(zv f a * zv f b) else zv f a * zv f b) (wex f a + wex f b)).1, (mk (if s = true then -(zv f a * zv f b) else zv f a * zv f b) (wex f a + wex f b)).2.1, (mk (if s = true then -(zv f a * zv f b) else zv f a * zv f b) (wex f a + wex f b)).2.2, decide (¬ (decide (¬ (z4 f a = z4 f b))) = s)) := by
 have za := zw h a
 have zb := zw h b
 unfold zK.f
 refine Ev.bind (zcK h a) (Ev.bind (zcK h b) (Ev.bind (zdh za.rg zb.rg) ?_))
 have j0 : ∀ (x : Bool × List Int × Int), Ev (fun k => zK.j0 k f (a : Int) (b : Int) s false [] 0 false x.1 x.2.1 x.2.2) (x.1, x.2.1, x.2.2, decide (¬ (decide (¬ (z4 f a = z4 f b))) = s)) := by
  intro x
  refine zg ?_; simp only [zK.j0]
  exact zi (zeP h a) (zi (zeP h b) (Ev.now _))
 cases s
 ·exact zf (by simp) (j0 _)
 ·exact ze rfl (zi (zgM _ _) (j0 _))
theorem zgN {f : Int} (h : isF f) (a b c d : Nat) : Ev (fun k => zbH.f k f (a : Int) (b : Int) (c : Int) (d : Int)) ((prR f a b c d).1, (prR f a b c d).2.1, (prR f a b c d).2.2, (prI f a b c d).1, (prI f a b c d).2.1, (prI f a b c d).2.2) := by
 have za := zw h a
 have zb := zw h b
 have zc := zw h c
 have zd := zw h d
 unfold zbH.f zb5.f
 refine Ev.bind (Ev.bind (za4 h a c false) (Ev.bind (za4 h b d true) (Ev.bind (za4 h a d false) (Ev.bind (za4 h b c false) (Ev.now _))))) ?_
 dsimp only
 simp only [Bool.false_eq_true, if_false, if_true]
 refine Ev.bind (zci (za.mul zc).rg (zb.mul zd).neg.rg) (Ev.bind (zci (za.mul zd).rg (zb.mul zc).rg) ?_)
 exact Ev.now _
theorem zgO {f : Int} (h : isF f) (a b c d : Nat) : Ev (fun k => zbI.f k f (a : Int) (b : Int) (c : Int) (d : Int)) ((quR f a b c d).1, (quR f a b c d).2.1, (quR f a b c d).2.2, (quI f a b c d).1, (quI f a b c d).2.1, (quI f a b c d).2.2, (quD f c d).1, (quD f c d).2.1, (quD f c d).2.2) := by
 have za := zw h a
 have zb := zw h b
 have zc := zw h c
 have zd := zw h d
 unfold zbI.f zb6.f
 refine Ev.bind (Ev.bind (zcK h c) (Ev.bind (zcK h d) (Ev.bind (za4 h a c false) (Ev.bind (za4 h b d false) (Ev.bind (za4 h b c false) (Ev.bind (za4 h a d true) (Ev.bind (zdh zc.rg zc.rg) (Ev.bind (zdh zd.rg zd.rg) (Ev.bind (zci (zc.mul zc).rg (zd.mul zd).rg) (Ev.now _)))))))))) ?_
 dsimp only
 simp only [Bool.false_eq_true, if_false, if_true]
 refine Ev.bind (zci (za.mul zc).rg (zb.mul zd).rg) (Ev.bind (zci (zb.mul zc).rg (za.mul zd).neg.rg) ?_)
 exact Ev.now _
theorem zck {za ea zb eb : Int} (ha : W2 za ea) (hb : W2 zb eb) : Ev (fun k => zS.f k (zj za ea zb eb).1 (zj za ea zb eb).2.1 (zj za ea zb eb).2.2 (zj za ea zb eb).1 (zj za ea zb eb).2.1 (zj za ea zb eb).2.2) true := by
 have h1 := ha.sum hb
 refine zh (zeE (zcm za ea zb eb) (min ea eb) (zcm za ea zb eb) (min ea eb) (by omega)) ?_
 exact decide_eq_true rfl
theorem zaO : Ev (fun k => zS.f k false [] 0 false [] 0) true := by
 refine zh (zeE 0 0 0 0 (by decide)) ?_
 exact decide_eq_true rfl
theorem zf6 {f : Int} (h : isF f) (a b c d : Nat) (e : Int) {x y z : Bool × List Int × Int} {g : Int} (he : g = e) (hx : e = 0 → x = quR f a b c d ∧ y = quI f a b c d ∧ z = quD f c d) (hn : e ≠ 0 → x = (false, [], 0) ∧ y = (false, [], 0) ∧ z = (false, [], 0)) :
  Ev (fun k => zk.j6 k f (a : Int) (b : Int) (c : Int) (d : Int) x.1 x.2.1 x.2.2 y.1 y.2.1 y.2.2 z.1 z.2.1 z.2.2 g false [] 0 e) true := by
 have za := zw h a
 have zb := zw h b
 have zc := zw h c
 have zd := zw h d
 subst he
 refine zg ?_; simp only [zk.j6]
 by_cases c0 : g = 0
 ·obtain ⟨rfl, rfl, rfl⟩ := hx c0
  refine zf (fun hh => hh c0) (Ev.bind (zgO h a b c d) ?_)
  dsimp only
  refine Ev.bind (zck (za.mul zc) (zb.mul zd)) (ze rfl (Ev.bind (zck (zb.mul zc) (za.mul zd).neg) (ze rfl (Ev.bind (zck (zc.mul zc) (zd.mul zd)) (ze rfl (ze c0 (Ev.bind zc7 (Ev.now _))))))))
 ·obtain ⟨rfl, rfl, rfl⟩ := hn c0
  refine ze c0 (Ev.bind zaO (ze rfl (Ev.bind zaO (ze rfl (Ev.bind zaO (ze rfl (ze trivial (Ev.bind zc7 (Ev.now _)))))))))
theorem zcC {f : Int} (h : isF f) (a b c d : Nat) (n e : Int) {u v x y z : Bool × List Int × Int} {m g : Int} (hm : m = n) (hu : n = 0 → u = prR f a b c d ∧ v = prI f a b c d) (hv : n ≠ 0 → u = (false, [], 0) ∧ v = (false, [], 0)) (he : g = e) (hx : e = 0 → x = quR f a b c d ∧ y = quI f a b c d ∧ z = quD f c d) (hn : e ≠ 0 → x = (false, [], 0) ∧ y = (false, [], 0) ∧ z = (false, [], 0)) :
  Ev (fun k => zk.j3 k f (a : Int) (b : Int) (c : Int) (d : Int) u.1 u.2.1 u.2.2 v.1 v.2.1 v.2.2 m x.1 x.2.1 x.2.2 y.1 y.2.1 y.2.2 z.1 z.2.1 z.2.2 g n false [] 0 e) true := by
 have za := zw h a
 have zb := zw h b
 have zc := zw h c
 have zd := zw h d
 have j6 := zf6 h a b c d e he hx hn
 subst hm
 refine zg ?_; simp only [zk.j3]
 by_cases c0 : m = 0
 ·obtain ⟨rfl, rfl⟩ := hu c0
  refine zf (fun hh => hh c0) (Ev.bind (zgN h a b c d) ?_)
  dsimp only
  exact Ev.bind (zck (za.mul zc) (zb.mul zd).neg) (zf (by simp) (Ev.bind (zck (za.mul zd) (zb.mul zc)) (zf (by simp) (zf (fun hh => hh c0) j6))))
 ·obtain ⟨rfl, rfl⟩ := hv c0
  exact ze c0 (Ev.bind zaO (zf (by simp) (Ev.bind zaO (zf (by simp) (zf (fun hh => hh trivial) j6)))))
theorem zf5 {f : Int} (n : Int) (hn : n ≠ 0) (a b c d : Int) : Ev (fun k => zk.j3 k f a b c d false [] 0 false [] 0 n false [] 0 false [] 0 false [] 0 n n false [] 0 n) true := by
 refine zg ?_; simp only [zk.j3]
 refine ze hn (Ev.bind zaO (zf (by simp) (Ev.bind zaO (zf (by simp) (zf (fun hh => hh trivial) ?_)))))
 refine zg ?_; simp only [zk.j6]
 exact ze hn (Ev.bind zaO (ze rfl (Ev.bind zaO (ze rfl (Ev.bind zaO (ze rfl (ze trivial (Ev.bind zc7 (Ev.now _)))))))))
theorem zed {f : Int} (n : Int) (hn : n ≠ 0) (h7 : n ≠ 7) (a b c d : Int) : Ev (fun k => zk.j1 k f a b c d false [] 0 false [] 0 n false [] 0 false [] 0 false [] 0 n n) true := by
 refine zg ?_; simp only [zk.j1]
 exact zf hn (zf h7 (zf5 n hn a b c d))
theorem zee {f : Int} (h : isF f) {a b c d : Nat} (n : Int) {u v x y z : Bool × List Int × Int} {m g : Int} (hm : m = n) (hu : n = 0 → u = prR f a b c d ∧ v = prI f a b c d) (hv : n ≠ 0 → u = (false, [], 0) ∧ v = (false, [], 0)) (he : g = (if pcl f c d = 1 ∧ (n = 0 ∨ n = 7) then 11 else n)) (hx : g = 0 → x = quR f a b c d ∧ y = quI f a b c d ∧ z = quD f c d) (hn : g ≠ 0 → x = (false, [], 0) ∧ y = (false, [], 0) ∧ z = (false, [], 0)) :
  Ev (fun k => zk.j1 k f (a : Int) (b : Int) (c : Int) (d : Int) u.1 u.2.1 u.2.2 v.1 v.2.1 v.2.2 m x.1 x.2.1 x.2.2 y.1 y.2.1 y.2.2 z.1 z.2.1 z.2.2 g n) true := by
 refine zg ?_; simp only [zk.j1]
 by_cases c1 : pcl f c d = 1
 ·by_cases c0 : n = 0
  ·rw [if_pos ⟨c1, .inl c0⟩] at he
   exact ze c0 (zi (zcL h c d) (ze c1 (zcC h a b c d n 11 hm hu hv he (fun hh => hx (by omega)) (fun hh => hn (by omega)))))
  by_cases c7 : n = 7
  ·rw [if_pos ⟨c1, .inr c7⟩] at he
   exact zf c0 (ze c7 (zi (zcL h c d) (ze c1 (zcC h a b c d n 11 hm hu hv he (fun hh => hx (by omega)) (fun hh => hn (by omega))))))
  rw [if_neg (fun hh => hh.2.elim c0 c7)] at he
  exact zf c0 (zf c7 (zcC h a b c d n n hm hu hv he (fun hh => hx (by omega)) (fun hh => hn (by omega))))
 ·rw [if_neg (fun hh => c1 hh.1)] at he
  have j3 := zcC h a b c d n n hm hu hv he (fun hh => hx (by omega)) (fun hh => hn (by omega))
  by_cases c0 : n = 0
  ·exact ze c0 (zi (zcL h c d) (zf c1 j3))
  by_cases c7 : n = 7
  ·exact zf c0 (ze c7 (zi (zcL h c d) (zf c1 j3)))
  exact zf c0 (zf c7 j3)
theorem zfq {f : Int} (h : isF f) {a b c d : Nat} (ha : a < 18446744073709551616) (hb : b < 18446744073709551616) (hc : c < 18446744073709551616) (hd : d < 18446744073709551616) : Ev (fun k => zk.f k f (a : Int) (b : Int) (c : Int) (d : Int)) true := by
 have hg := zg7 h [(a, b), (c, d)] (by simp) (fun p hp => by
  rcases List.mem_cons.1 hp with rfl | hp
  ·exact ⟨ha, hb⟩
  ·rw [List.mem_singleton.1 hp]; exact ⟨hc, hd⟩)
 unfold zk.f
 by_cases hw : ∀ p ∈ [(a, b), (c, d)], p.1 < 2 * sg f ∧ p.2 < 2 * sg f
 ·rw [if_pos hw] at hg
  have wc := hw (c, d) (by simp)
  by_cases hf : ∀ p ∈ [(a, b), (c, d)], z8 f p.1 p.2
  ·have e0 : zB f [(a, b), (c, d)] = 0 := by unfold zB; rw [if_pos hw, if_pos hf]
   refine Ev.bind (zf1 h hw hf) ?_
   have tail : ∀ {x y z : Bool × List Int × Int} {g : Int}, g = (if pcl f c d = 1 ∧ ((0 : Int) = 0 ∨ (0 : Int) = 7) then 11 else 0) → (g = 0 → x = quR f a b c d ∧ y = quI f a b c d ∧ z = quD f c d) → (g ≠ 0 → x = (false, [], 0) ∧ y = (false, [], 0) ∧ z = (false, [], 0)) → _ := fun he hx hn => zee h (a := a) (b := b) (c := c) (d := d) 0 rfl (u := prR f a b c d) (v := prI f a b c d) (fun _ => ⟨rfl, rfl⟩) (fun hh => absurd rfl hh) he hx hn
   by_cases h0 : pcl f c d = 1
   ·have hq : quE f a b c d = 11 := by unfold quE; rw [if_pos ⟨h0, .inl e0⟩]
    have hq2 := zc5 h wc (show quE f a b c d ≠ 0 by omega)
    rw [hq] at hq2
    refine Ev.bind hq2 (Ev.bind hg (ze rfl (zi (zbS h a b) (ze (decide_eq_true (hf (a, b) (by simp))) (zi (zbS h c d) (zf (by simpa using hf (c, d) (by simp)) ?_))))))
    refine tail (x := (false, [], 0)) (y := (false, [], 0)) (z := (false, [], 0)) (g := 11) ?_ (fun hh => by omega) (fun _ => ⟨rfl, rfl, rfl⟩)
    rw [if_pos ⟨h0, .inl rfl⟩]
   ·refine Ev.bind (zf4 h hw hf h0) (Ev.bind hg (ze rfl (zi (zbS h a b) (ze (decide_eq_true (hf (a, b) (by simp))) (zi (zbS h c d) (zf (by simpa using hf (c, d) (by simp)) ?_))))))
    refine tail (x := quR f a b c d) (y := quI f a b c d) (z := quD f c d) (g := 0) ?_ (fun _ => ⟨rfl, rfl, rfl⟩) (fun hh => absurd rfl hh)
    rw [if_neg (fun hh => h0 hh.1)]
  ·have e0 : zB f [(a, b), (c, d)] = 7 := by unfold zB; rw [if_pos hw, if_neg hf]
   have hp := zd9 h a b c d (by omega)
   rw [e0] at hp
   refine Ev.bind hp ?_
   have hq0 : quE f a b c d = if pcl f c d = 1 ∧ ((7 : Int) = 0 ∨ (7 : Int) = 7) then 11 else 7 := by unfold quE; rw [e0]
   have hq2 := zc5 h (a := a) (b := b) wc (by rw [hq0]; split <;> omega)
   have tail := zee h (a := a) (b := b) (c := c) (d := d) 7 (m := 7) rfl (u := (false, [], 0)) (v := (false, [], 0)) (x := (false, [], 0)) (y := (false, [], 0)) (z := (false, [], 0)) (fun hh => by omega) (fun _ => ⟨rfl, rfl⟩) hq0 (fun hh => by rw [hq0] at hh; split at hh <;> omega) (fun _ => ⟨rfl, rfl, rfl⟩)
   refine Ev.bind hq2 (Ev.bind hg (ze rfl (zi (zbS h a b) ?_)))
   by_cases c1 : z8 f a b
   ·refine ze (decide_eq_true c1) (zi (zbS h c d) ?_)
    have c2 : ¬ z8 f c d := fun hh => hf (fun p hp => by
     rcases List.mem_cons.1 hp with rfl | hp
     ·exact c1
     ·rw [List.mem_singleton.1 hp]; exact hh)
    exact ze (by simpa using c2) tail
   ·exact zf (by simpa using c1) tail
 ·rw [if_neg hw] at hg
  have e0 : zB f [(a, b), (c, d)] = 6 := by unfold zB; rw [if_neg hw]
  have hp := zd9 h a b c d (by omega)
  rw [e0] at hp
  refine Ev.bind hp ?_
  have tail := zed (f := f) 6 (by omega) (by omega) (a : Int) (b : Int) (c : Int) (d : Int)
  by_cases wc : c < 2 * sg f ∧ d < 2 * sg f
  ·have hq : quE f a b c d = 6 := by unfold quE; rw [e0, if_neg (by omega)]
   have hq2 := zc5 h (a := a) (b := b) wc (by omega)
   rw [hq] at hq2
   exact Ev.bind hq2 (Ev.bind hg (zf (by simp) tail))
  ·exact Ev.bind (zf3 h wc) (Ev.bind hg (zf (by simp) tail))
theorem zfp (f a b c d : Int) (ha : IntKind.u64.min ≤ a ∧ a ≤ IntKind.u64.max) (hb : IntKind.u64.min ≤ b ∧ b ≤ IntKind.u64.max) (hc : IntKind.u64.min ≤ c ∧ c ≤ IntKind.u64.max) (hd : IntKind.u64.min ≤ d ∧ d ≤ IntKind.u64.max) : Ev (fun k => zk.f k f a b c d) true := by
 have e1 : IntKind.u64.min = 0 := rfl
 have e2 : IntKind.u64.max = 18446744073709551615 := rfl
 rw [e1, e2] at ha hb hc hd
 obtain ⟨a, rfl⟩ := Int.eq_ofNat_of_zero_le ha.1
 obtain ⟨b, rfl⟩ := Int.eq_ofNat_of_zero_le hb.1
 obtain ⟨c, rfl⟩ := Int.eq_ofNat_of_zero_le hc.1
 obtain ⟨d, rfl⟩ := Int.eq_ofNat_of_zero_le hd.1
 by_cases h : isF f
 ·exact zfq h (by omega) (by omega) (by omega) (by omega)
 ·have hg := zg6 h [((a : Int), (b : Int)), ((c : Int), (d : Int))]
  unfold zk.f
  exact Ev.bind (zf0 h _ _ _ _) (Ev.bind (zf2 h _ _ _ _) (Ev.bind hg (zf (by simp) (zed 4 (by omega) (by omega) _ _ _ _))))
end Go.Proofs.YtioialhbjmnndaaGreatDoor.Eng.K
