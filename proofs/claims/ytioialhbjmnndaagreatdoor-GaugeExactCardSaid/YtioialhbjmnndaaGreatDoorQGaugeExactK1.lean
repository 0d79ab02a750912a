import Derived.Test.YtioialhbjmnndaaGreatDoorQGaugeExactF1
import Derived.Laws.BitsAllLaws
import Derived.Lib.Bytes
set_option linter.unusedVariables false
set_option linter.unusedSimpArgs false
namespace Go.Proofs.YtioialhbjmnndaaGreatDoor.Eng
def Ev {α : Type} (g : Nat → Option α) (r : α) : Prop := ∃ n, ∀ k, n ≤ k → g k = some r
theorem Ev.now {α : Type} (r : α) : Ev (fun _ => some r) r := ⟨0, fun _ _ => rfl⟩
theorem Ev.bind {α β : Type} {g : Nat → Option α} {f : Nat → α → Option β} {a : α} {r : β} (h : Ev g a) (k : Ev (fun n => f n a) r) : Ev (fun n => (g n).bind (f n)) r := by
 obtain ⟨n, hn⟩ := h
 obtain ⟨m, hm⟩ := k
 exact ⟨n + m, fun i hi => by show (g i).bind (f i) = some r; rw [hn i (by omega), Option.bind_some]; exact hm i (by omega)⟩
theorem Ev.step {α : Type} {g f : Nat → Option α} {r : α} (h : ∀ k, g (k + 1) = f k) (k : Ev f r) : Ev g r := by
 obtain ⟨n, hn⟩ := k
 refine ⟨n + 1, fun i hi => ?_⟩
 obtain ⟨i, rfl⟩ : ∃ j, i = j + 1 := ⟨i - 1, by omega⟩
 rw [h]; exact hn i (by omega)
end Go.Proofs.YtioialhbjmnndaaGreatDoor.Eng
namespace Go.Proofs.YtioialhbjmnndaaGreatDoor.Eng.K
open Go.RowKit
theorem w64 {n : Int} (h0 : -9223372036854775808 ≤ n) (h1 : n < 9223372036854775808) : wrap64 n = n := by unfold wrap64; omega
theorem za0 {n : Int} (h0 : 0 ≤ n) (h1 : n < 9223372036854775808) : wrap64 n = n := by unfold wrap64; omega
theorem u64 {n : Int} (h0 : 0 ≤ n) (h1 : n < 18446744073709551616) : IntKind.u64.wrap n = n := by
 simp [IntKind.wrap, IntKind.bits, IntKind.signed]; omega
theorem zbG (n : Int) : IntKind.u64.wrap n = n % 18446744073709551616 := by
 simp [IntKind.wrap, IntKind.bits, IntKind.signed]
theorem rdn (xs : List Int) (n : Nat) : rd xs (n : Int) = xs.getD n 0 := by simp [rd]
theorem zaY {xs ys : List Int} {y : Int} {i : Int} (h : i = (xs.length : Int)) : rd (xs ++ y :: ys) i = y := by
 subst h; simp [rd]
theorem zcP {xs ys : List Int} {y z : Int} {i : Int} (h : i = (xs.length : Int)) : (xs ++ y :: ys).set i.toNat z = (xs ++ [z]) ++ ys := by
 subst h; simp
theorem zg {α : Type} {g : Nat → Option α} {r s : α} (h : Ev g r) (e : r = s) : Ev g s := e ▸ h
theorem zjV {α : Type} {x : Option α} {r : α} (h : x = some r) : Ev (fun _ => x) r := by subst h; exact Ev.now r
theorem ze {α : Type} {c : Prop} {_ : Decidable c} {g f : Nat → Option α} {r : α} (h : c) (k : Ev g r) : Ev (fun n => if c then g n else f n) r := by
 simpa [h] using k
theorem zf {α : Type} {c : Prop} {_ : Decidable c} {g f : Nat → Option α} {r : α} (h : ¬ c) (k : Ev f r) : Ev (fun n => if c then g n else f n) r := by
 simpa [h] using k
theorem ep {α : Type} {c : Prop} {_ : Decidable c} {g f : Nat → Option α} {r : α} (k : Ev g r) (h : c := by (first | omega | assumption | (simp; done) | (simp; omega))) : Ev (fun n => if c then g n else f n) r := ze h k
theorem en {α : Type} {c : Prop} {_ : Decidable c} {g f : Nat → Option α} {r : α} (k : Ev f r) (h : ¬ c := by (first | omega | assumption | (simp; done) | (simp; omega))) : Ev (fun n => if c then g n else f n) r := zf h k
theorem zi {α β : Type} {x : Option α} {f : Nat → α → Option β} {a : α} {r : β} (h : x = some a) (k : Ev (fun n => f n a) r) : Ev (fun n => x.bind (f n)) r := by
 subst h; exact k
theorem zh {α : Type} {g : Nat → Option α} {r : α} (k : Ev (fun n => g (n + 1)) r) : Ev g r := Ev.step (fun _ => rfl) k
theorem Ev.unique {α : Type} {g : Nat → Option α} {r s : α} (h : Ev g r) (k : Ev g s) : r = s := by
 obtain ⟨a, ha⟩ := h; obtain ⟨b, hb⟩ := k
 have h1 := ha (max a b) (Nat.le_max_left _ _); have h2 := hb (max a b) (Nat.le_max_right _ _)
 rw [h1] at h2; exact Option.some.inj h2
def Dg (l : List Int) : Prop := ∀ x ∈ l, 0 ≤ x ∧ x < 4294967296
def V : List Int → Nat
 | [] => 0
 | d :: l => d.toNat + 4294967296 * V l
def D (n : Nat) : List Int := if h : n = 0 then [] else ((n % 4294967296 : Nat) : Int) :: D (n / 4294967296)
termination_by n
decreasing_by omega
theorem Dg.nil : Dg [] := fun _ h => by simp at h
theorem Dg.cons {d : Int} {l : List Int} (h0 : 0 ≤ d) (h1 : d < 4294967296) (h : Dg l) : Dg (d :: l) := fun x hx => by
 rcases List.mem_cons.1 hx with rfl | hx
 ·exact ⟨h0, h1⟩
 ·exact h x hx
theorem Dg.head {d : Int} {l : List Int} (h : Dg (d :: l)) : 0 ≤ d ∧ d < 4294967296 := h d (by simp)
theorem Dg.tail {d : Int} {l : List Int} (h : Dg (d :: l)) : Dg l := fun x hx => h x (by simp [hx])
theorem Dg.app {a b : List Int} (h : Dg a) (k : Dg b) : Dg (a ++ b) := fun x hx => by
 rcases List.mem_append.1 hx with hx | hx
 ·exact h x hx
 ·exact k x hx
theorem Dg.left {a b : List Int} (h : Dg (a ++ b)) : Dg a := fun x hx => h x (by simp [hx])
theorem Dg.right {a b : List Int} (h : Dg (a ++ b)) : Dg b := fun x hx => h x (by simp [hx])
theorem Dg.take {a : List Int} (h : Dg a) (n : Nat) : Dg (a.take n) := fun x hx => h x (List.mem_of_mem_take hx)
theorem Dg.drop {a : List Int} (h : Dg a) (n : Nat) : Dg (a.drop n) := fun x hx => h x (List.mem_of_mem_drop hx)
theorem Dg.zeros (n : Nat) : Dg (List.replicate n 0) := fun x hx => by
 obtain ⟨_, rfl⟩ := List.mem_replicate.1 hx; omega
theorem Dg.getD {a : List Int} (h : Dg a) (n : Nat) : 0 ≤ a.getD n 0 ∧ a.getD n 0 < 4294967296 := by
 rw [List.getD_eq_getElem?_getD]
 cases e : a[n]? with
 | none => simp
 | some x => simpa using h x (List.mem_of_getElem? e)
theorem Dg.rd {a : List Int} (h : Dg a) (i : Int) : 0 ≤ rd a i ∧ rd a i < 4294967296 := h.getD i.toNat
theorem Dg.set {a : List Int} (h : Dg a) (n : Nat) {x : Int} (h0 : 0 ≤ x) (h1 : x < 4294967296) : Dg (a.set n x) := fun y hy => by
 rcases List.mem_or_eq_of_mem_set hy with hy | rfl
 ·exact h y hy
 ·exact ⟨h0, h1⟩
@[simp] theorem zO : V [] = 0 := rfl
@[simp] theorem zF (d : Int) (l : List Int) : V (d :: l) = d.toNat + 4294967296 * V l := rfl
theorem zbH (a b : List Int) : V (a ++ b) = V a + 4294967296 ^ a.length * V b := by
 induction a with
 | nil => simp
 | cons d a ih => simp [ih, Nat.pow_succ]; grind
theorem zez (n : Nat) : V (List.replicate n 0) = 0 := by
 induction n with
 | zero => rfl
 | succ n ih => simp [List.replicate_succ, ih]
theorem zbt {l : List Int} (h : Dg l) : V l < 4294967296 ^ l.length := by
 induction l with
 | nil => simp
 | cons d l ih =>
  have := ih h.tail; have := h.head
  simp only [zF, List.length_cons, Nat.pow_succ]
  omega
theorem zN : D 0 = [] := by unfold D; simp
theorem zbV {n : Nat} (h : n ≠ 0) : D n = ((n % 4294967296 : Nat) : Int) :: D (n / 4294967296) := by
 conv => lhs; unfold D
 simp [h]
theorem V_D (n : Nat) : V (D n) = n := by
 induction n using Nat.strongRecOn with
 | _ n ih =>
  by_cases h : n = 0
  ·subst h; simp [zN]
  ·rw [zbV h, zF, ih _ (by omega)]; omega
theorem zcY (n : Nat) : Dg (D n) := by
 induction n using Nat.strongRecOn with
 | _ n ih =>
  by_cases h : n = 0
  ·subst h; rw [zN]; exact Dg.nil
  ·rw [zbV h]; exact Dg.cons (by omega) (by omega) (ih _ (by omega))
theorem zfe {d : Int} {n : Nat} (h0 : 0 ≤ d) (h1 : d < 4294967296) (h : d ≠ 0 ∨ n ≠ 0) : D (d.toNat + 4294967296 * n) = d :: D n := by
 rw [zbV (by omega)]
 congr 1
 ·omega
 ·congr 1; omega
def Nm (l : List Int) : Prop := D (V l) = l
instance (l : List Int) : Decidable (Nm l) := inferInstanceAs (Decidable (D (V l) = l))
theorem Nm.dg {l : List Int} (h : Nm l) : Dg l := h ▸ zcY _
theorem zo (n : Nat) : Nm (D n) := by unfold Nm; rw [V_D]
theorem zcm : Nm [] := by unfold Nm; exact zN
theorem Nm.inj {a b : List Int} (h : Nm a) (k : Nm b) (e : V a = V b) : a = b := by rw [← h, e, k]
theorem zcZ {l : List Int} (h : Nm l) : V l = 0 ↔ l = [] := by
 constructor
 ·intro e; rw [← h, e, zN]
 ·rintro rfl; rfl
theorem zfh {l : List Int} {d : Int} (h : Dg l) (h0 : 0 < d) (h1 : d < 4294967296) : Nm (l ++ [d]) := by
 unfold Nm
 induction l with
 | nil =>
  have := zfe (d := d) (n := 0) (by omega) h1 (by omega)
  simpa [zN] using this
 | cons x l ih =>
  have hx := h.head
  rw [List.cons_append, zF, zfe hx.1 hx.2, ih h.tail]
  right; rw [zbH]
  have : 0 < 4294967296 ^ l.length := Nat.pow_pos (by omega)
  have : 0 < 4294967296 ^ l.length * V [d] := Nat.mul_pos this (by simp; omega)
  omega
theorem zfi (l : List Int) : V (l ++ [0]) = V l := by rw [zbH]; simp
theorem ziX {l : List Int} (h : Dg l) : (D (V l)).length ≤ l.length := by
 induction l with
 | nil => simp [zN]
 | cons x l ih =>
  have hx := h.head
  by_cases e : x ≠ 0 ∨ V l ≠ 0
  ·rw [zF, zfe hx.1 hx.2 e]; simpa using ih h.tail
  ·have h1 : x = 0 := by omega
   have h2 : V l = 0 := by omega
   simp [h1, h2, zN]
theorem zgr {l : List Int} {d : Int} (h : Nm (l ++ [d])) : d ≠ 0 := by
 intro e; subst e
 have h2 := ziX h.dg.left
 have h3 : D (V (l ++ [0])) = l ++ [0] := h
 rw [zfi] at h3
 rw [h3] at h2
 simp at h2
 omega
theorem zgq {l : List Int} (h : Dg l) : Nm l ↔ l = [] ∨ l.getD (l.length - 1) 0 ≠ 0 := by
 rcases List.eq_nil_or_concat l with rfl | ⟨a, d, rfl⟩
 ·simp [zcm]
 ·rw [List.concat_eq_append] at h ⊢
  have : (a ++ [d]).getD ((a ++ [d]).length - 1) 0 = d := by simp
  rw [this]
  constructor
  ·intro k; exact .inr (zgr k)
  ·rintro (k | k)
   ·simp at k
   ·have := h d (by simp)
    exact zfh h.left (by omega) this.2
theorem zgo {n k : Nat} (h : n < 4294967296 ^ k) : (D n).length ≤ k := by
  induction k generalizing n with
  | zero => have : n = 0 := by simpa using h
            subst this; simp [zN]
  | succ k ih =>
    by_cases e : n = 0
    · subst e; simp [zN]
    · rw [zbV e, List.length_cons]
      have := ih (n := n / 4294967296) (by rw [Nat.pow_succ] at h; omega)
      omega
theorem zdj (n : Nat) : n < 4294967296 ^ (D n).length := by
 have := zbt (zcY n); rwa [V_D] at this
theorem ziW {n : Nat} (h : n ≠ 0) : 4294967296 ^ ((D n).length - 1) ≤ n := by
 apply Nat.le_of_not_lt
 intro k
 have := zgo k
 have : (D n).length ≠ 0 := by rw [zbV h]; simp
 omega
theorem zdX {a b : Nat} (h : a ≤ b) : (D a).length ≤ (D b).length :=
 zgo (Nat.lt_of_le_of_lt h (zdj b))
theorem zkw {a b : Nat} (h : (D a).length < (D b).length) : a < b := by
 apply Nat.lt_of_not_le
 intro k
 have := zdX k
 omega
theorem Nm.len {l : List Int} (h : Nm l) : (D (V l)).length = l.length := by rw [h]
theorem Nm.lt_of_len {a b : List Int} (h : Nm a) (k : Nm b) (e : a.length < b.length) : V a < V b := by
 apply zkw; rw [h, k]; exact e
theorem z3 {n : Nat} (h : n < 4611686018427387904) : wrap64 ((n : Int) + 1) = ((n + 1 : Nat) : Int) := by unfold wrap64; omega
theorem ziF {n : Nat} (h : n < 4611686018427387904) : wrap64 (((n + 1 : Nat) : Int) - 1) = (n : Int) := by unfold wrap64; omega
theorem ziy : ∀ (n : Nat) (l : List Int), l.length = n → Dg l → n < 4611686018427387904 → Ev (fun k => zy.f k l) (D (V l))
 | 0, l, hn, hd, hb => by
  have : l = [] := List.eq_nil_of_length_eq_zero hn
  subst this
  refine zh (zjV ?_)
  simp [zy.f, zy.l0, zN]
 | n + 1, l, hn, hd, hb => by
  rcases List.eq_nil_or_concat l with rfl | ⟨a, d, rfl⟩
  ·simp at hn
  rw [List.concat_eq_append] at hn hd ⊢
  have hl : (a ++ [d]).length = n + 1 := hn
  have ha : a.length = n := by simpa using hn
  refine zh ?_
  show Ev (fun k => zy.l0 (k + 1) (a ++ [d])) _
  simp only [zy.l0, hl, ziF (n := n) (by omega)]
  refine ze (by omega) (ze (by omega) (ze (by omega) ?_))
  rw [zaY (by omega)]
  by_cases h0 : d = 0
  ·subst h0
   refine ze rfl (ze (by omega) ?_)
   rw [zfi]
   have : (a ++ [(0 : Int)]).take (n : Int).toNat = a := by simp [← ha]
   rw [this]
   exact ze (by omega) (ziy n a ha hd.left (by omega))
  ·refine zf h0 ?_
   have := hd d (by simp)
   rw [zfh hd.left (by omega) this.2]
   exact Ev.now _
theorem zdO {l : List Int} (hd : Dg l) (hb : l.length < 4611686018427387904) : Ev (fun k => zy.f k l) (D (V l)) := ziy _ l rfl hd hb
theorem zif (l : List Int) (hd : Dg l) (hb : l.length < 4611686018427387904) : ∀ (n : Nat) (a b : List Int), a.length = n → l = a ++ b → V b = 0 → Ev (fun k => zt.l0 k l n) (D (V l))
 | 0, a, b, hn, he, h0 => by
  have : a = [] := List.eq_nil_of_length_eq_zero hn
  subst this
  refine zh ?_
  simp only [zt.l0]
  refine zf (by omega) (ze (by omega) (ze (by omega) ?_))
  rw [he]; simp [h0, zN]; exact Ev.now _
 | n + 1, a, b, hn, he, h0 => by
  rcases List.eq_nil_or_concat a with rfl | ⟨a, d, rfl⟩
  ·simp at hn
  rw [List.concat_eq_append] at hn he
  have ha : a.length = n := by simpa using hn
  have hl : l.length = n + 1 + b.length := by rw [he]; simp [ha]; omega
  refine zh ?_
  simp only [zt.l0, ziF (n := n) (by omega)]
  refine ze (by omega) (ze (by omega) (ze (by omega) ?_))
  have hr : rd l n = d := by rw [he, List.append_assoc]; exact zaY (by omega)
  rw [hr]
  by_cases hz : d = 0
  ·refine ze hz ?_
   exact zif l hd hb n a (d :: b) ha (by rw [he]; simp) (by simp [h0, hz])
  ·refine zf hz (ze (by omega) (ze (by omega) ?_))
   have hd2 := hd
   rw [he] at hd2
   have h1 := hd2.left d (by simp)
   have h2 : V l = V (a ++ [d]) := by rw [he, zbH (a ++ [d]) b, h0]; simp
   have h3 : l.take ((n + 1 : Nat) : Int).toNat = a ++ [d] := by
    rw [he, Int.toNat_natCast]; exact List.take_left' (by simp [ha])
   rw [h3, h2, zfh hd2.left.left (by omega) h1.2]
   exact Ev.now _
theorem zcO {l : List Int} (hd : Dg l) (hb : l.length < 4611686018427387904) : Ev (fun k => zt.f k l) (D (V l)) :=
 zif l hd hb l.length l [] rfl (by simp) rfl
theorem zgC (n : Int) (h0 : 0 ≤ n) (h1 : n < 18446744073709551616) : V [n % 4294967296, (n / 4294967296) % 4294967296] = n.toNat := by
 simp; omega
theorem zgp (n : Int) : Dg [n % 4294967296, (n / 4294967296) % 4294967296] := Dg.cons (by omega) (by omega) (Dg.cons (by omega) (by omega) Dg.nil)
theorem zfF {n : Int} (h0 : 0 ≤ n) (h1 : n < 18446744073709551616) : Ev (fun k => zaU.f k n) (D n.toNat) := by
 unfold zaU.f
 refine Ev.bind (zdO (zgp n) (by simp)) ?_
 rw [zgC n h0 h1]; exact Ev.now _
theorem ze2 {n : Int} (h0 : 0 ≤ n) (h1 : n < 18446744073709551616) : Ev (fun k => zbK.f k n) (D n.toNat) := by
 unfold zbK.f
 refine Ev.bind (zcO (zgp n) (by simp)) ?_
 rw [zgC n h0 h1]; exact Ev.now _
theorem zih (x y : List Int) (hl : x.length = y.length) (hb : x.length < 4611686018427387904) : ∀ (d n : Nat), n + d = x.length → Ev (fun k => zbc.l0 k x y n) (decide (x.drop n = y.drop n))
 | 0, n, h => by
  refine zh ?_
  simp only [zbc.l0]
  refine zf (by omega) ?_
  rw [List.drop_eq_nil_of_le (by omega), List.drop_eq_nil_of_le (by omega)]
  exact Ev.now _
 | d + 1, n, h => by
  refine zh ?_
  simp only [zbc.l0, z3 (n := n) (by omega)]
  refine ze (by omega) (ze (by omega) (ze (by omega) (ze (by omega) (ze (by omega) ?_))))
  have hx : n < x.length := by omega
  have hy : n < y.length := by omega
  have e1 : rd x n = x[n] := by rw [rdn]; simp [hx]
  have e2 : rd y n = y[n] := by rw [rdn]; simp [hy]
  have d1 := List.drop_eq_getElem_cons hx
  have d2 := List.drop_eq_getElem_cons hy
  rw [e1, e2]
  by_cases he : x[n] = y[n]
  ·refine zf (fun h => h he) ?_
   refine zg (zih x y hl hb d (n + 1) (by omega)) ?_
   exact decide_eq_decide.2 ⟨fun h => by rw [d1, d2, he, h], fun h => by rw [d1, d2] at h; exact (List.cons.inj h).2⟩
  ·refine ze he ?_
   refine zg (Ev.now _) ?_
   exact (decide_eq_false (fun h => by rw [d1, d2] at h; exact he (List.cons.inj h).1)).symm
theorem zlz (x y : List Int) (hb : x.length < 4611686018427387904) : Ev (fun k => zbc.f k x y) (decide (x = y)) := by
 unfold zbc.f
 by_cases h : x.length = y.length
 ·refine zf (by omega) ?_
  exact zg (zih x y h hb x.length 0 (by omega)) (by simp)
 ·refine ze (by omega) ?_
  refine zg (Ev.now _) ?_
  have : x ≠ y := fun e => h (by rw [e])
  simp [this]
def may (l : List Int) : Bool := decide (l.length ≤ 4096) && decide (Nm l)
theorem zaT {l : List Int} : may l = true ↔ l.length ≤ 4096 ∧ Nm l := by simp [may]
theorem zcJ {l : List Int} (h : Dg l) (hb : l.length < 4611686018427387904) : zaK.f l = some (may l) := by
 unfold zaK.f may
 by_cases h1 : l.length ≤ 4096
 ·rw [if_pos (by omega)]
  by_cases h2 : l.length = 0
  ·have : l = [] := List.eq_nil_of_length_eq_zero h2
   subst this; simp [zcm]
  ·rw [if_neg (by omega)]
   have e : wrap64 ((l.length : Int) - 1) = ((l.length - 1 : Nat) : Int) := by unfold wrap64; omega
   rw [e, if_pos (by omega), if_pos (by omega), rdn]
   have h3 : l ≠ [] := fun e => h2 (by rw [e]; rfl)
   have h4 := zgq h
   by_cases h5 : l.getD (l.length - 1) 0 = 0
   ·have : ¬ Nm l := fun k => by rcases h4.1 k with k | k <;> contradiction
    rw [h5]; simp [this]
   ·have : Nm l := h4.2 (.inr h5)
    simp only [h5, not_false_eq_true, decide_true]; simp [h1, this]
 ·rw [if_neg (by omega)]; simp [h1]
theorem zeF {a b : List Int} (ha : Dg a) (hb : Dg b) (la : a.length < 4611686018427387904) (lb : b.length < 4611686018427387904) : Ev (fun k => zar.f k [a, b]) (may a && may b) := by
 unfold zar.f
 refine zh ?_
 simp only [zar.l0]
 refine ze (by simp) (ze (by omega) (ze (by simp) ?_))
 have e0 : rdT [.is .u32] [a, b] 0 = a := rfl
 have e1 : rdT [.is .u32] [a, b] 1 = b := rfl
 rw [e0]
 refine zi (zcJ ha la) ?_
 cases may a with
 | false => exact ze (by simp) (Ev.now _)
 | true =>
  refine zf (by simp) ?_
  have w1 : wrap64 (0 + 1) = 1 := by unfold wrap64; omega
  have w2 : wrap64 (1 + 1) = 2 := by unfold wrap64; omega
  rw [w1]
  refine zh ?_
  simp only [zar.l0]
  refine ze (by simp) (ze (by omega) (ze (by simp) ?_))
  rw [e1]
  refine zi (zcJ hb lb) ?_
  cases may b with
  | false => exact ze (by simp) (Ev.now _)
  | true =>
   refine zf (by simp) ?_
   rw [w2]
   refine zh ?_
   simp only [zar.l0]
   exact zf (by simp) (Ev.now _)
def zbw (n : Nat) : List Int × Int := if (D n).length > 4096 then ([], 3) else (D n, 0)
theorem zhw (n : Nat) : zaV.f (D n) = some (zbw n) := by
 unfold zaV.f zbw
 by_cases h : (D n).length > 4096
 ·rw [if_pos (by omega), if_pos h]
 ·rw [if_neg (by omega), if_neg h]
theorem zi5 {x y c : Int} (hx : 0 ≤ x ∧ x < 4294967296) (hy : 0 ≤ y ∧ y < 4294967296) (hc : 0 ≤ c ∧ c < 4294967296) : zc1.f x y c = some ((x + y + c) % 4294967296, (x + y + c) / 4294967296) := by
 unfold zc1.f
 rw [u64 hx.1 (by omega), u64 hy.1 (by omega), u64 hc.1 (by omega), u64 (n := x + y) (by omega) (by omega), u64 (by omega) (by omega)]
 have : (x + y + c) / 4294967296 % 4294967296 = (x + y + c) / 4294967296 := by omega
 rw [this]
def zcb : List Int → List Int → Int → List Int
 | [], _, c => [c]
 | x :: a, b, c => ((x + b.headD 0 + c) % 4294967296) :: zcb a b.tail ((x + b.headD 0 + c) / 4294967296)
theorem Dg.headD {b : List Int} (h : Dg b) : 0 ≤ b.headD 0 ∧ b.headD 0 < 4294967296 := by
 cases b with
 | nil => simp
 | cons y b => exact h.head
theorem Dg.tl {b : List Int} (h : Dg b) : Dg b.tail := by
 cases b with
 | nil => exact h
 | cons y b => exact h.tail
theorem zdx (b : List Int) : V b = (b.headD 0).toNat + 4294967296 * V b.tail := by
 cases b <;> simp
theorem zi7 {a b : List Int} {c : Int} (ha : Dg a) (hb : Dg b) (hc : 0 ≤ c ∧ c ≤ 1) (hl : b.length ≤ a.length) : V (zcb a b c) = V a + V b + c.toNat ∧ Dg (zcb a b c) := by
 induction a generalizing b c with
 | nil =>
  have : b = [] := List.eq_nil_of_length_eq_zero (by simpa using hl)
  subst this
  exact ⟨by simp [zcb], Dg.cons hc.1 (by omega) Dg.nil⟩
 | cons x a ih =>
  have hx := ha.head
  have hy := hb.headD
  have := ih (b := b.tail) (c := (x + b.headD 0 + c) / 4294967296) ha.tail hb.tl (by omega) (by simp at hl ⊢; omega)
  refine ⟨?_, Dg.cons (by omega) (by omega) this.2⟩
  rw [zcb, zF, this.1, zdx b, zF]
  omega
theorem zd7 (b : List Int) (n : Nat) : (b.drop n).headD 0 = b.getD n 0 := by
 rw [List.headD_eq_head?_getD, List.head?_drop, List.getD_eq_getElem?_getD]
theorem zgE (A Bl : List Int) (hA : Dg A) (hB : Dg Bl) (hl : A.length < 1152921504606846976) : ∀ (a done r : List Int) (c : Int) (pa : List Int), A = pa ++ a → done.length = pa.length → r.length = a.length + 1 → 0 ≤ c ∧ c ≤ 1 → Dg done → (Bl.drop done.length).length ≤ a.length →
  Ev (fun k => zz.l0 k A Bl (done ++ r) c A.length done.length) (zbw (V (done ++ zcb a (Bl.drop done.length) c)))
 | [], done, r, c, pa, he, hd, hr, hc, hg, hbl => by
  obtain ⟨y, rfl⟩ : ∃ y, r = [y] := by
   match r, hr with
   | [y], _ => exact ⟨y, rfl⟩
  have hlen : A.length = done.length := by rw [he, hd]; simp
  refine zh ?_
  simp only [zz.l0]
  refine zf (by omega) (ze (by omega) (ze (by simp; omega) ?_))
  have hs : (done ++ [y]).set (A.length : Int).toNat c = done ++ [c] := by
   rw [zcP (by omega)]; simp
  rw [hs]
  have hg2 : Dg (done ++ [c]) := hg.app (Dg.cons hc.1 (by omega) Dg.nil)
  refine Ev.bind (zdO hg2 (by simp; omega)) ?_
  refine zi (zhw _) ?_
  exact Ev.now _
 | x :: a, done, r, c, pa, he, hd, hr, hc, hg, hbl => by
  obtain ⟨y, r, rfl⟩ : ∃ y r', r = y :: r' := by
   match r, hr with
   | y :: r', _ => exact ⟨y, r', rfl⟩
  have hlen : A.length = done.length + 1 + a.length := by rw [he, hd]; simp; omega
  refine zh ?_
  simp only [zz.l0, z3 (n := done.length) (by omega)]
  refine ze (by omega) ?_
  have hx : rd A (done.length : Int) = x := by rw [he]; exact zaY (by omega)
  have hxr : 0 ≤ x ∧ x < 4294967296 := by rw [he] at hA; exact hA.right.head
  have hyr := (hB.drop done.length).headD
  have key : ∀ z, z = (Bl.drop done.length).headD 0 → Ev (fun k => (zc1.f x z c).bind fun bt => if (done.length : Int) < ((done ++ y :: r).length : Int) then zz.l0 k A Bl ((done ++ y :: r).set (done.length : Int).toNat bt.1) bt.2 A.length ((done.length + 1 : Nat) : Int) else none) (zbw (V (done ++ zcb (x :: a) (Bl.drop done.length) c))) := by
   rintro z rfl
   refine zi (zi5 hxr hyr ⟨hc.1, by omega⟩) ?_
   refine ze (by simp; omega) ?_
   rw [zcP rfl]
   have := zgE A Bl hA hB hl a (done ++ [(x + (Bl.drop done.length).headD 0 + c) % 4294967296]) r ((x + (Bl.drop done.length).headD 0 + c) / 4294967296) (pa ++ [x]) (by rw [he]; simp) (by simp [hd]) (by simpa using hr) (by omega) (hg.app (Dg.cons (by omega) (by omega) Dg.nil)) (by simp at hbl ⊢; omega)
   rw [List.length_append, List.length_singleton] at this
   refine zg this ?_
   rw [zcb, List.tail_drop]; simp
  have jn : ∀ z, z = (Bl.drop done.length).headD 0 → Ev (fun n => zz.j3 n A Bl (done ++ y :: r) c (done.length : Int) z A.length (done.length : Int)) (zbw (V (done ++ zcb (x :: a) (Bl.drop done.length) c))) := by
   intro z hz
   refine zh ?_
   simp only [zz.j3, z3 (n := done.length) (by omega)]
   refine ze (by omega) (ze (by omega) ?_)
   rw [hx]
   have := key z hz
   simpa only [show (0 : Int) ≤ (done.length : Int) by omega, if_true] using this
  by_cases hb : (done.length : Int) < (Bl.length : Int)
  ·refine ze hb (ze (by omega) (ze (by omega) ?_))
   exact jn _ (by rw [zd7, rdn])
  ·refine zf hb ?_
   exact jn 0 (by rw [List.drop_eq_nil_of_le (by omega)]; rfl)
theorem zgD {a b : List Int} (ha : Dg a) (hb : Dg b) (hl : b.length ≤ a.length) (hn : a.length ≤ 4096) : Ev (fun k => zz.j1 k a b) (zbw (V a + V b)) := by
 refine zh ?_
 simp only [zz.j1, z3 (n := a.length) (by omega)]
 refine ze (by omega) (ze (by omega) ?_)
 have := zgE a b ha hb (by omega) a [] (List.replicate (a.length + 1) 0) 0 [] rfl rfl (by simp) (by omega) Dg.nil (by simpa using hl)
 refine zg this ?_
 have h2 := zi7 ha hb (c := 0) (by omega) hl
 simp [h2.1]
theorem zkK {a b : List Int} (ha : Nm a) (hb : Nm b) (la : a.length ≤ 4096) (lb : b.length ≤ 4096) : Ev (fun k => zz.f k a b) (zbw (V a + V b)) := by
 unfold zz.f
 refine Ev.bind (zeF ha.dg hb.dg (by omega) (by omega)) ?_
 have h1 : may a = true := zaT.2 ⟨la, ha⟩
 have h2 : may b = true := zaT.2 ⟨lb, hb⟩
 refine zf (by simp [h1, h2]) ?_
 by_cases h : a.length < b.length
 ·refine ze (by omega) ?_
  rw [Nat.add_comm]; exact zgD hb.dg ha.dg (by omega) lb
 ·exact zf (by omega) (zgD ha.dg hb.dg (by omega) la)
def z5 (m n : Nat) : Int := if m < n then -1 else if n < m then 1 else 0
theorem zey {l : List Int} {n : Nat} (h : n < l.length) : V (l.take (n + 1)) = V (l.take n) + 4294967296 ^ n * (l.getD n 0).toNat := by
 rw [List.take_succ_eq_append_getElem h, zbH]
 simp [Nat.min_eq_left (Nat.le_of_lt h), h]
theorem zix {p q P d e : Nat} (hp : p < P) (h : d < e) : p + P * d < q + P * e := by
 have : P * (d + 1) ≤ P * e := Nat.mul_le_mul_left _ h
 rw [Nat.mul_add] at this
 omega
theorem zgA {l : List Int} (h : Dg l) {n : Nat} (hn : n ≤ l.length) : V (l.take n) < 4294967296 ^ n := by
 have := zbt (h.take n); rwa [List.length_take, Nat.min_eq_left hn] at this
theorem zg1 {x y : List Int} (hx : Dg x) (hy : Dg y) {n : Nat} (h1 : n < x.length) (h2 : n < y.length) :
  z5 (V (x.take (n + 1))) (V (y.take (n + 1))) = if x.getD n 0 = y.getD n 0 then z5 (V (x.take n)) (V (y.take n)) else if x.getD n 0 < y.getD n 0 then -1 else 1 := by
 rw [zey h1, zey h2]
 have a := hx.getD n
 have b := hy.getD n
 have p := zgA hx (Nat.le_of_lt h1)
 have q := zgA hy (Nat.le_of_lt h2)
 by_cases e : x.getD n 0 = y.getD n 0
 ·rw [if_pos e, e]; unfold z5; simp
 ·rw [if_neg e]
  by_cases c : x.getD n 0 < y.getD n 0
  ·rw [if_pos c]
   have := zix (q := V (y.take n)) p (show (x.getD n 0).toNat < (y.getD n 0).toNat by omega)
   unfold z5; rw [if_pos this]
  ·rw [if_neg c]
   have := zix (q := V (x.take n)) q (show (y.getD n 0).toNat < (x.getD n 0).toNat by omega)
   unfold z5; rw [if_neg (by omega), if_pos this]
theorem zds {n : Nat} (h : n < 4611686018427387904) : wrap64 ((n : Int) - 1) = (n : Int) - 1 := by unfold wrap64; omega
theorem zgZ {x y : List Int} (hx : Dg x) (hy : Dg y) (hb : x.length < 4611686018427387904) : ∀ (n : Nat), n ≤ x.length → n ≤ y.length → Ev (fun k => zaW.l0 k x y ((n : Int) - 1)) (z5 (V (x.take n)) (V (y.take n)))
 | 0, _, _ => by
  refine zh ?_
  simp only [zaW.l0]
  (repeat (first | with_reducible refine ep ?_ | with_reducible refine en ?_)); exact Ev.now _
 | n + 1, h1, h2 => by
  refine zh ?_
  simp only [zaW.l0]
  have e : ((n + 1 : Nat) : Int) - 1 = (n : Int) := by omega
  rw [e, zds (n := n) (by omega)]
  (repeat (first | with_reducible refine ep ?_ | with_reducible refine en ?_))
  rw [zg1 hx hy (by omega) (by omega), rdn, rdn]
  by_cases c : x.getD n 0 = y.getD n 0
  ·(repeat (first | with_reducible refine ep ?_ | with_reducible refine en ?_))
   rw [if_pos c]
   exact zgZ hx hy hb n (by omega) (by omega)
  ·(repeat (first | with_reducible refine ep ?_ | with_reducible refine en ?_))
   rw [if_neg c]
   by_cases c2 : x.getD n 0 < y.getD n 0
   ·(repeat (first | with_reducible refine ep ?_ | with_reducible refine en ?_))
    rw [if_pos c2]; exact Ev.now _
   ·(repeat (first | with_reducible refine ep ?_ | with_reducible refine en ?_))
    rw [if_neg c2]; exact Ev.now _
theorem zhx {x y : List Int} (hx : Nm x) (hy : Nm y) (hb : x.length < 4611686018427387904) : Ev (fun k => zaW.f k x y) (z5 (V x) (V y)) := by
 unfold zaW.f
 by_cases c : x.length < y.length
 ·(repeat (first | with_reducible refine ep ?_ | with_reducible refine en ?_))
  unfold z5; rw [if_pos (hx.lt_of_len hy c)]; exact Ev.now _
 ·(repeat (first | with_reducible refine ep ?_ | with_reducible refine en ?_))
  by_cases c2 : y.length < x.length
  ·(repeat (first | with_reducible refine ep ?_ | with_reducible refine en ?_))
   have := hy.lt_of_len hx c2
   unfold z5; rw [if_neg (by omega), if_pos this]; exact Ev.now _
  ·(repeat (first | with_reducible refine ep ?_ | with_reducible refine en ?_))
   have e : x.length = y.length := by omega
   rw [zds (by omega)]
   have := zgZ hx.dg hy.dg hb x.length (by omega) (by omega)
   rwa [List.take_length, e, List.take_length, ← e] at this
theorem zhU {x y : List Int} (hx : Dg x) (hy : Dg y) (hb : x.length < 4611686018427387904) : ∀ (n : Nat), n ≤ x.length → n ≤ y.length → Ev (fun k => zaO.l0 k x y ((n : Int) - 1)) (z5 (V (x.take n)) (V (y.take n)))
 | 0, _, _ => by
  refine zh ?_
  simp only [zaO.l0]
  (repeat (first | with_reducible refine ep ?_ | with_reducible refine en ?_)); exact Ev.now _
 | n + 1, h1, h2 => by
  refine zh ?_
  simp only [zaO.l0]
  have e : ((n + 1 : Nat) : Int) - 1 = (n : Int) := by omega
  rw [e, zds (n := n) (by omega)]
  (repeat (first | with_reducible refine ep ?_ | with_reducible refine en ?_))
  rw [zg1 hx hy (by omega) (by omega), rdn, rdn]
  by_cases c2 : x.getD n 0 < y.getD n 0
  ·(repeat (first | with_reducible refine ep ?_ | with_reducible refine en ?_))
   rw [if_neg (by omega), if_pos c2]; exact Ev.now _
  ·(repeat (first | with_reducible refine ep ?_ | with_reducible refine en ?_))
   by_cases c : x.getD n 0 > y.getD n 0
   ·(repeat (first | with_reducible refine ep ?_ | with_reducible refine en ?_))
    rw [if_neg (by omega), if_neg c2]; exact Ev.now _
   ·(repeat (first | with_reducible refine ep ?_ | with_reducible refine en ?_))
    rw [if_pos (by omega)]
    exact zhU hx hy hb n (by omega) (by omega)
theorem zhX {x y : List Int} (hx : Nm x) (hy : Nm y) (hb : x.length < 4611686018427387904) : Ev (fun k => zaO.f k x y) (z5 (V x) (V y)) := by
 unfold zaO.f
 by_cases e : x.length = y.length
 ·(repeat (first | with_reducible refine ep ?_ | with_reducible refine en ?_))
  rw [zds (by omega)]
  have := zhU hx.dg hy.dg hb x.length (by omega) (by omega)
  rwa [List.take_length, e, List.take_length, ← e] at this
 ·(repeat (first | with_reducible refine ep ?_ | with_reducible refine en ?_))
  by_cases c : x.length < y.length
  ·(repeat (first | with_reducible refine ep ?_ | with_reducible refine en ?_))
   unfold z5; rw [if_pos (hx.lt_of_len hy c)]; exact Ev.now _
  ·(repeat (first | with_reducible refine ep ?_ | with_reducible refine en ?_))
   have := hy.lt_of_len hx (by omega)
   unfold z5; rw [if_neg (by omega), if_pos this]; exact Ev.now _
theorem zeT {a b : List Int} (ha : Nm a) (hb : Nm b) (la : a.length ≤ 4096) (lb : b.length ≤ 4096) : Ev (fun k => zcH.f k a b) (z5 (V a) (V b), 0) := by
 unfold zcH.f
 refine Ev.bind (zeF ha.dg hb.dg (by omega) (by omega)) ?_
 have h1 : may a = true := zaT.2 ⟨la, ha⟩
 have h2 : may b = true := zaT.2 ⟨lb, hb⟩
 refine zf (by simp [h1, h2]) (Ev.bind (zhx ha hb (by omega)) ?_)
 exact Ev.now _
theorem zb6 (n : Nat) : n >>> 31 = n / 2147483648 := by rw [Nat.shiftRight_eq_div_pow]
theorem zfn {n : Nat} (h : n < 4294967296) : n / 2147483648 = 0 ∨ n / 2147483648 = 1 := by omega
theorem zjs {x y d : Nat} (hx : x < 4294967296) (hy : y < 4294967296) (hd : d < 4294967296) :
  ((((4294967295 ^^^ x) &&& y) ||| ((4294967295 ^^^ (x ^^^ y)) &&& d)) / 2147483648 : Nat) =
   if x / 2147483648 = 0 then (if y / 2147483648 = 0 then d / 2147483648 else 1) else (if y / 2147483648 = 0 then 0 else d / 2147483648) := by
 rw [← zb6, ← zb6, ← zb6, ← zb6, Nat.shiftRight_or_distrib, Nat.shiftRight_and_distrib, Nat.shiftRight_and_distrib, Nat.shiftRight_xor_distrib, Nat.shiftRight_xor_distrib, Nat.shiftRight_xor_distrib]
 simp only [zb6]
 have e : 4294967295 / 2147483648 = 1 := by decide
 rw [e]
 rcases zfn hx with h1 | h1 <;> rcases zfn hy with h2 | h2 <;> rcases zfn hd with h3 | h3 <;> rw [h1, h2, h3] <;> decide
theorem zl0 {x y c : Int} (hx : 0 ≤ x ∧ x < 4294967296) (hy : 0 ≤ y ∧ y < 4294967296) (hc : 0 ≤ c ∧ c ≤ 1) : zc2.f x y c = some ((x - y - c) % 4294967296, if x < y + c then 1 else 0) := by
 unfold zc2.f
 have hd : ((x - y) % 4294967296 - c) % 4294967296 = (x - y - c) % 4294967296 := by omega
 rw [hd]
 obtain ⟨X, rfl⟩ := Int.eq_ofNat_of_zero_le hx.1
 obtain ⟨Y, rfl⟩ := Int.eq_ofNat_of_zero_le hy.1
 obtain ⟨Z, hZ⟩ := Int.eq_ofNat_of_zero_le (show 0 ≤ ((X : Int) - Y - c) % 4294967296 by omega)
 have hZl : Z < 4294967296 := by omega
 have h1 : 4294967295 ^^^ X < 4294967296 := Nat.xor_lt_two_pow (n := 32) (by omega) (by omega)
 have h2 : X ^^^ Y < 4294967296 := Nat.xor_lt_two_pow (n := 32) (by omega) (by omega)
 have h3 : 4294967295 ^^^ (X ^^^ Y) < 4294967296 := Nat.xor_lt_two_pow (n := 32) (by omega) (by omega)
 have h4 : (4294967295 ^^^ X) &&& Y < 4294967296 := Nat.and_lt_two_pow (n := 32) _ (by omega)
 have h5 : (4294967295 ^^^ (X ^^^ Y)) &&& Z < 4294967296 := Nat.and_lt_two_pow (n := 32) _ (by omega)
 have e : (4294967295 : Int) = ((4294967295 : Nat) : Int) := rfl
 rw [hZ, e, u32_xor_nat _ _ (by omega) (by omega), u32_and_nat _ _ h1 (by omega), u32_xor_nat _ _ (by omega) (by omega), u32_xor_nat _ _ (by omega) h2, u32_and_nat _ _ h3 hZl, u32_or_nat _ _ h4 h5]
 have b := zjs (x := X) (y := Y) (d := Z) (by omega) (by omega) hZl
 have : (((((4294967295 ^^^ X) &&& Y ||| (4294967295 ^^^ (X ^^^ Y)) &&& Z : Nat) : Int)) / 2147483648) = (((((4294967295 ^^^ X) &&& Y ||| (4294967295 ^^^ (X ^^^ Y)) &&& Z) / 2147483648 : Nat)) : Int) := by omega
 rw [this, b]
 congr 2
 by_cases c1 : X / 2147483648 = 0 <;> by_cases c2 : Y / 2147483648 = 0 <;> simp only [c1, c2, if_true, if_false] <;> by_cases c3 : (X : Int) < Y + c <;> simp only [c3, if_true, if_false] <;> omega
def zbq : List Int → List Int → Int → List Int
 | [], _, _ => []
 | x :: a, b, c => ((x - b.headD 0 - c) % 4294967296) :: zbq a b.tail (if x < b.headD 0 + c then 1 else 0)
theorem ziq {a b : List Int} {c : Int} (ha : Dg a) (hb : Dg b) (hc : 0 ≤ c ∧ c ≤ 1) (hl : b.length ≤ a.length) (h : V b + c.toNat ≤ V a) : V (zbq a b c) = V a - V b - c.toNat ∧ Dg (zbq a b c) := by
 induction a generalizing b c with
 | nil =>
  have : b = [] := List.eq_nil_of_length_eq_zero (by simpa using hl)
  subst this
  exact ⟨by simp [zbq], Dg.nil⟩
 | cons x a ih =>
  have hx := ha.head
  have hy := hb.headD
  rw [zdx b, zF] at h
  have := ih (b := b.tail) (c := if x < b.headD 0 + c then 1 else 0) ha.tail hb.tl (by split <;> omega) (by simp at hl ⊢; omega) (by split <;> omega)
  refine ⟨?_, Dg.cons (by omega) (by omega) this.2⟩
  rw [zbq, zF, this.1, zdx b, zF]
  split <;> omega
theorem zir (A Bl : List Int) (hA : Dg A) (hB : Dg Bl) (hl : A.length < 1152921504606846976) : ∀ (a done r : List Int) (c : Int) (pa : List Int), A = pa ++ a → done.length = pa.length → r.length = a.length → 0 ≤ c ∧ c ≤ 1 → Dg done →
  Ev (fun k => zak.l0 k A Bl (done ++ r) c A.length done.length) (D (V (done ++ zbq a (Bl.drop done.length) c)))
 | [], done, r, c, pa, he, hd, hr, hc, hg => by
  have : r = [] := List.eq_nil_of_length_eq_zero hr
  subst this
  have hlen : A.length = done.length := by rw [he, hd]; simp
  refine zh ?_
  simp only [zak.l0]
  (repeat (first | with_reducible refine ep ?_ | with_reducible refine en ?_))
  refine Ev.bind (zdO (hg.app Dg.nil) (by simp; omega)) ?_
  exact Ev.now _
 | x :: a, done, r, c, pa, he, hd, hr, hc, hg => by
  obtain ⟨y, r, rfl⟩ : ∃ y r', r = y :: r' := by
   match r, hr with
   | y :: r', _ => exact ⟨y, r', rfl⟩
  have hlen : A.length = done.length + 1 + a.length := by rw [he, hd]; simp; omega
  refine zh ?_
  simp only [zak.l0, z3 (n := done.length) (by omega)]
  (repeat (first | with_reducible refine ep ?_ | with_reducible refine en ?_))
  have hx : rd A (done.length : Int) = x := by rw [he]; exact zaY (by omega)
  have hxr : 0 ≤ x ∧ x < 4294967296 := by rw [he] at hA; exact hA.right.head
  have hyr := (hB.drop done.length).headD
  have key : ∀ z, z = (Bl.drop done.length).headD 0 → Ev (fun k => (zc2.f x z c).bind fun bt => if (done.length : Int) < ((done ++ y :: r).length : Int) then zak.l0 k A Bl ((done ++ y :: r).set (done.length : Int).toNat bt.1) bt.2 A.length ((done.length + 1 : Nat) : Int) else none) (D (V (done ++ zbq (x :: a) (Bl.drop done.length) c))) := by
   rintro z rfl
   refine zi (zl0 hxr hyr hc) ?_
   (repeat (first | with_reducible refine ep ?_ | with_reducible refine en ?_))
   rw [zcP rfl]
   have := zir A Bl hA hB hl a (done ++ [(x - (Bl.drop done.length).headD 0 - c) % 4294967296]) r (if x < (Bl.drop done.length).headD 0 + c then 1 else 0) (pa ++ [x]) (by rw [he]; simp) (by simp [hd]) (by simpa using hr) (by split <;> omega) (hg.app (Dg.cons (by omega) (by omega) Dg.nil))
   rw [List.length_append, List.length_singleton] at this
   refine zg this ?_
   rw [zbq, List.tail_drop]; simp
  have jn : ∀ z, z = (Bl.drop done.length).headD 0 → Ev (fun n => zak.j1 n A Bl (done ++ y :: r) c (done.length : Int) z A.length (done.length : Int)) (D (V (done ++ zbq (x :: a) (Bl.drop done.length) c))) := by
   intro z hz
   refine zh ?_
   simp only [zak.j1, z3 (n := done.length) (by omega)]
   (repeat (first | with_reducible refine ep ?_ | with_reducible refine en ?_))
   rw [hx]
   have h0 : (0 : Int) ≤ (done.length : Int) := by omega
   have := key z hz
   simp only [h0, if_true]
   exact this
  by_cases hb : (done.length : Int) < (Bl.length : Int)
  ·(repeat (first | with_reducible refine ep ?_ | with_reducible refine en ?_))
   exact jn _ (by rw [zd7, rdn])
  ·(repeat (first | with_reducible refine ep ?_ | with_reducible refine en ?_))
   exact jn 0 (by rw [List.drop_eq_nil_of_le (by omega)]; rfl)
theorem zkO {a b : List Int} (ha : Nm a) (hb : Nm b) (la : a.length ≤ 1000000) (h : V b ≤ V a) : Ev (fun k => zak.f k a b) (D (V a - V b)) := by
 unfold zak.f
 (repeat (first | with_reducible refine ep ?_ | with_reducible refine en ?_))
 have hl : b.length ≤ a.length := by rw [← ha.len, ← hb.len]; exact zdX h
 have := zir a b ha.dg hb.dg (by omega) a [] (List.replicate a.length 0) 0 [] rfl rfl (by simp) (by omega) Dg.nil
 refine zg this ?_
 have h2 := ziq ha.dg hb.dg (c := 0) (by omega) hl (by simpa using h)
 simp [h2.1]
def zdU (m n : Nat) : List Int × Int := if m < n then ([], 10) else (D (m - n), 0)
theorem zhv {a b : List Int} (ha : Nm a) (hb : Nm b) (la : a.length ≤ 4096) (lb : b.length ≤ 4096) : Ev (fun k => zb8.f k a b) (zdU (V a) (V b)) := by
 unfold zb8.f zdU
 refine Ev.bind (zeF ha.dg hb.dg (by omega) (by omega)) ?_
 have h1 : may a = true := zaT.2 ⟨la, ha⟩
 have h2 : may b = true := zaT.2 ⟨lb, hb⟩
 refine zf (by simp [h1, h2]) (Ev.bind (zhx ha hb (by omega)) ?_)
 by_cases c : V a < V b
 ·rw [if_pos c]
  refine ze ?_ (Ev.now _)
  unfold z5; rw [if_pos c]; decide
 ·rw [if_neg c]
  refine zf ?_ (Ev.bind (zkO ha hb (by omega) (by omega)) (Ev.now _))
  unfold z5; rw [if_neg c]; split <;> decide
theorem zhT (A Bl : List Int) (hA : Dg A) (hB : Dg Bl) (hl : A.length < 1000000000) (hl2 : Bl.length < 1000000000) : ∀ (d : Nat) (done : List Int) (c : Int), done.length + d = max A.length Bl.length → 0 ≤ c ∧ c ≤ 1 → Dg done →
  V done + 4294967296 ^ done.length * (V (A.drop done.length) + V (Bl.drop done.length) + c.toNat) = V A + V Bl →
  Ev (fun k => zx.l0 k A Bl done c done.length) (D (V A + V Bl))
 | 0, done, c, hd, hc, hg, hv => by
  refine zh ?_
  simp only [zx.l0]
  (repeat (first | with_reducible refine ep ?_ | with_reducible refine en ?_))
  have e : c % 4294967296 = c := by omega
  rw [e]
  refine Ev.bind (zcO (hg.app (Dg.cons hc.1 (by omega) Dg.nil)) (by simp; omega)) ?_
  refine zg (Ev.now _) ?_
  rw [List.drop_eq_nil_of_le (by omega), List.drop_eq_nil_of_le (by omega)] at hv
  rw [zbH, ← hv]; simp
 | d + 1, done, c, hd, hc, hg, hv => by
  have ha := hA.rd (done.length : Int)
  have hb := hB.rd (done.length : Int)
  have hx := zdx (A.drop done.length)
  have hy := zdx (Bl.drop done.length)
  rw [zd7, List.tail_drop] at hx hy
  have key : ∀ (s : Int), s = A.getD done.length 0 + Bl.getD done.length 0 + c → Ev (fun k => zx.l0 k A Bl (done ++ [s % 4294967296]) (s / 4294967296) ((done.length + 1 : Nat) : Int)) (D (V A + V Bl)) := by
   intro s hs
   have ha' := hA.getD done.length
   have hb' := hB.getD done.length
   have := zhT A Bl hA hB hl hl2 d (done ++ [s % 4294967296]) (s / 4294967296) (by simp; omega) (by omega) (hg.app (Dg.cons (by omega) (by omega) Dg.nil)) (by
    rw [zbH, List.length_append, List.length_singleton, Nat.pow_succ, Nat.mul_assoc, Nat.add_assoc, ← Nat.mul_add, ← hv]
    congr 2
    simp only [zF, zO]
    omega)
   rwa [List.length_append, List.length_singleton] at this
  have hr : ∀ l : List Int, rd l (done.length : Int) = l.getD done.length 0 := fun l => rdn l _
  refine zh ?_
  simp only [zx.l0]
  by_cases c1 : done.length < A.length
  ·(repeat (first | with_reducible refine ep ?_ | with_reducible refine en ?_))
   refine zh ?_
   simp only [zx.j2]
   by_cases c2 : done.length < Bl.length
   ·(repeat (first | with_reducible refine ep ?_ | with_reducible refine en ?_))
    refine zh ?_
    simp only [zx.j3, z3 (n := done.length) (by omega)]
    (repeat (first | with_reducible refine ep ?_ | with_reducible refine en ?_))
    rw [u64 ha.1 (by omega), u64 hb.1 (by omega), u64 (n := c + rd A (done.length : Int)) (by omega) (by omega), u64 (by omega) (by omega)]
    exact key _ (by rw [hr, hr]; omega)
   ·(repeat (first | with_reducible refine ep ?_ | with_reducible refine en ?_))
    refine zh ?_
    simp only [zx.j3, z3 (n := done.length) (by omega)]
    (repeat (first | with_reducible refine ep ?_ | with_reducible refine en ?_))
    rw [u64 ha.1 (by omega), u64 (by omega) (by omega)]
    refine key _ ?_
    have : Bl.getD done.length 0 = 0 := by rw [List.getD_eq_getElem?_getD, List.getElem?_eq_none (by omega)]; rfl
    rw [hr, this]; omega
  ·(repeat (first | with_reducible refine ep ?_ | with_reducible refine en ?_))
   have c2 : done.length < Bl.length := by omega
   refine zh ?_
   simp only [zx.j2]
   (repeat (first | with_reducible refine ep ?_ | with_reducible refine en ?_))
   refine zh ?_
   simp only [zx.j3, z3 (n := done.length) (by omega)]
   (repeat (first | with_reducible refine ep ?_ | with_reducible refine en ?_))
   rw [u64 hb.1 (by omega), u64 (by omega) (by omega)]
   refine key _ ?_
   have : A.getD done.length 0 = 0 := by rw [List.getD_eq_getElem?_getD, List.getElem?_eq_none (by omega)]; rfl
   rw [hr, this]; omega
theorem zf0 {a b : List Int} (ha : Dg a) (hb : Dg b) (la : a.length < 1000000000) (lb : b.length < 1000000000) : Ev (fun k => zx.f k a b) (D (V a + V b)) := by
 unfold zx.f
 have := zhT a b ha hb la lb (max a.length b.length) [] 0 (by simp) (by omega) Dg.nil (by simp)
 simpa using this
theorem zic (A Bl : List Int) (hA : Dg A) (hB : Dg Bl) (hl : A.length < 1000000000) : ∀ (d : Nat) (done : List Int) (c : Int), done.length + d = A.length → 0 ≤ c ∧ c ≤ 1 → Dg done →
  Ev (fun k => zA.l0 k A Bl done c done.length) (D (V (done ++ zbq (A.drop done.length) (Bl.drop done.length) c)))
 | 0, done, c, hd, hc, hg => by
  refine zh ?_
  simp only [zA.l0]
  (repeat (first | with_reducible refine ep ?_ | with_reducible refine en ?_))
  rw [List.drop_eq_nil_of_le (show A.length ≤ done.length by omega)]
  simp only [zbq, List.append_nil]
  refine Ev.bind (zcO hg (by omega)) ?_
  exact Ev.now _
 | d + 1, done, c, hd, hc, hg => by
  have ha := hA.rd (done.length : Int)
  have hb := hB.rd (done.length : Int)
  have hc1 : done.length < A.length := by omega
  have hx : A.drop done.length = A.getD done.length 0 :: A.drop (done.length + 1) := by
   rw [List.drop_eq_getElem_cons hc1]; simp [hc1]
  have key : ∀ (s z : Int), z = Bl.getD done.length 0 → s % 4294967296 = (A.getD done.length 0 - z - c) % 4294967296 → ∀ c', c' = (if A.getD done.length 0 < z + c then 1 else 0) → Ev (fun k => zA.l0 k A Bl (done ++ [s % 4294967296]) c' ((done.length + 1 : Nat) : Int)) (D (V (done ++ zbq (A.drop done.length) (Bl.drop done.length) c))) := by
   rintro s z rfl hs c' rfl
   have := zic A Bl hA hB hl d (done ++ [s % 4294967296]) (if A.getD done.length 0 < Bl.getD done.length 0 + c then 1 else 0) (by simp; omega) (by split <;> omega) (hg.app (Dg.cons (by omega) (by omega) Dg.nil))
   rw [List.length_append, List.length_singleton] at this
   refine zg this ?_
   rw [hx, zbq, zd7, List.tail_drop, hs]; simp
  have hr : ∀ l : List Int, rd l (done.length : Int) = l.getD done.length 0 := fun l => rdn l _
  refine zh ?_
  simp only [zA.l0, z3 (n := done.length) (by omega)]
  (repeat (first | with_reducible refine ep ?_ | with_reducible refine en ?_))
  rw [hr] at ha hb
  by_cases c2 : done.length < Bl.length
  ·(repeat (first | with_reducible refine ep ?_ | with_reducible refine en ?_))
   refine zh ?_
   simp only [zA.j1]
   (repeat (first | with_reducible refine ep ?_ | with_reducible refine en ?_))
   rw [hr, hr, u64 ha.1 (by omega), u64 hb.1 (by omega), u64 (n := c + Bl.getD done.length 0) (by omega) (by omega)]
   by_cases c3 : A.getD done.length 0 < c + Bl.getD done.length 0
   ·(repeat (first | with_reducible refine ep ?_ | with_reducible refine en ?_))
    rw [u64 (n := A.getD done.length 0 + 4294967296) (by omega) (by omega)]
    refine zh ?_
    simp only [zA.j2, z3 (n := done.length) (by omega)]
    (repeat (first | with_reducible refine ep ?_ | with_reducible refine en ?_))
    rw [u64 (by omega) (by omega)]
    exact key _ (Bl.getD done.length 0) rfl (by omega) 1 (by rw [if_pos (by omega)])
   ·(repeat (first | with_reducible refine ep ?_ | with_reducible refine en ?_))
    refine zh ?_
    simp only [zA.j2, z3 (n := done.length) (by omega)]
    (repeat (first | with_reducible refine ep ?_ | with_reducible refine en ?_))
    rw [u64 (by omega) (by omega)]
    exact key _ (Bl.getD done.length 0) rfl (by omega) 0 (by rw [if_neg (by omega)])
  ·(repeat (first | with_reducible refine ep ?_ | with_reducible refine en ?_))
   have hz : Bl.getD done.length 0 = 0 := by rw [List.getD_eq_getElem?_getD, List.getElem?_eq_none (by omega)]; rfl
   refine zh ?_
   simp only [zA.j1]
   (repeat (first | with_reducible refine ep ?_ | with_reducible refine en ?_))
   rw [hr, u64 ha.1 (by omega)]
   by_cases c3 : A.getD done.length 0 < c
   ·(repeat (first | with_reducible refine ep ?_ | with_reducible refine en ?_))
    rw [u64 (n := A.getD done.length 0 + 4294967296) (by omega) (by omega)]
    refine zh ?_
    simp only [zA.j2, z3 (n := done.length) (by omega)]
    (repeat (first | with_reducible refine ep ?_ | with_reducible refine en ?_))
    rw [u64 (by omega) (by omega)]
    exact key _ (Bl.getD done.length 0) rfl (by omega) 1 (by rw [if_pos (by omega)])
   ·(repeat (first | with_reducible refine ep ?_ | with_reducible refine en ?_))
    refine zh ?_
    simp only [zA.j2, z3 (n := done.length) (by omega)]
    (repeat (first | with_reducible refine ep ?_ | with_reducible refine en ?_))
    rw [u64 (by omega) (by omega)]
    exact key _ (Bl.getD done.length 0) rfl (by omega) 0 (by rw [if_neg (by omega)])
theorem zf4 {a b : List Int} (ha : Nm a) (hb : Nm b) (la : a.length < 1000000000) (h : V b ≤ V a) : Ev (fun k => zA.f k a b) (D (V a - V b)) := by
 unfold zA.f
 have hl : b.length ≤ a.length := by rw [← ha.len, ← hb.len]; exact zdX h
 have := zic a b ha.dg hb.dg la a.length [] 0 (by simp) (by omega) Dg.nil
 refine zg this ?_
 have h2 := ziq ha.dg hb.dg (c := 0) (by omega) hl (by simpa using h)
 simp [h2.1]
theorem zeQ {x y : Int} (hx : 0 ≤ x ∧ x < 4294967296) (hy : 0 ≤ y ∧ y < 4294967296) : 0 ≤ x * y ∧ x * y ≤ 18446744065119617025 := by
 constructor
 ·exact Int.mul_nonneg hx.1 hy.1
 ·have h1 : x * y ≤ 4294967295 * y := Int.mul_le_mul_of_nonneg_right (by omega) hy.1
  have h2 : 4294967295 * y ≤ 4294967295 * 4294967295 := Int.mul_le_mul_of_nonneg_left (by omega) (by omega)
  omega
def zad : Int → List Int → List Int → Int → List Int
 | _, [], o, c => c :: o.tail
 | x, y :: b, o, c => ((x * y + o.headD 0 + c) % 4294967296) :: zad x b o.tail ((x * y + o.headD 0 + c) / 4294967296)
theorem zgg {x y : Int} (hx : 0 ≤ x) (hy : 0 ≤ y) : (x * y).toNat = x.toNat * y.toNat := Int.toNat_mul hx hy
theorem zf8 {x : Int} (hx : 0 ≤ x ∧ x < 4294967296) : ∀ (b o : List Int) (c : Int) (m : Nat), Dg b → Dg o → 0 ≤ c ∧ c < 4294967296 → o.drop b.length = List.replicate (m + 1) 0 →
  V (zad x b o c) = V o + x.toNat * V b + c.toNat ∧ Dg (zad x b o c) ∧ (zad x b o c).tail.drop b.length = List.replicate m 0 ∧ (zad x b o c).length = o.length
 | [], o, c, m, hb, ho, hc, hz => by
  have hz' : o = 0 :: List.replicate m 0 := by simpa [List.replicate_succ] using hz
  subst hz'
  refine ⟨?_, ?_, ?_, ?_⟩
  ·simp [zad, zez]
  ·exact Dg.cons hc.1 hc.2 (Dg.zeros m)
  ·simp [zad]
  ·simp [zad]
 | y :: b, o, c, m, hb, ho, hc, hz => by
  obtain ⟨o0, o, rfl⟩ : ∃ o0 o', o = o0 :: o' := by
   cases o with
   | nil => simp at hz
   | cons o0 o' => exact ⟨o0, o', rfl⟩
  have hy := hb.head
  have h0 := ho.head
  have hp := zeQ hx hy
  have hz2 : o.drop b.length = List.replicate (m + 1) 0 := by simpa using hz
  have := zf8 hx b o ((x * y + o0 + c) / 4294967296) m hb.tail ho.tail (by omega) hz2
  simp only [zad, List.headD_cons, List.tail_cons]
  refine ⟨?_, Dg.cons (by omega) (by omega) this.2.1, ?_, by simp [this.2.2.2]⟩
  ·have e1 : x.toNat * (y.toNat + 4294967296 * V b) = (x * y).toNat + 4294967296 * (x.toNat * V b) := by
    rw [Nat.mul_add, Nat.mul_left_comm, zgg hx.1 hy.1]
   rw [zF, this.1, zF, zF, e1]
   omega
  ·obtain ⟨r0, r, hr⟩ : ∃ r0 r', zad x b o ((x * y + o0 + c) / 4294967296) = r0 :: r' := by
    cases h : zad x b o ((x * y + o0 + c) / 4294967296) with
    | nil =>
     have hl := this.2.2.2
     rw [h] at hl
     have : o = [] := List.eq_nil_of_length_eq_zero (by simpa using hl.symm)
     subst this; simp at hz2
    | cons r0 r' => exact ⟨r0, r', rfl⟩
   have h3 := this.2.2.1
   rw [hr] at h3 ⊢
   simpa using h3
def zb7 : List Int → List Int → List Int → List Int
 | [], _, o => o
 | x :: a, b, o => (zad x b o 0).headD 0 :: zb7 a b (zad x b o 0).tail
theorem zhr : ∀ (a b o : List Int), Dg a → Dg b → Dg o → o.drop b.length = List.replicate a.length 0 → V (zb7 a b o) = V o + V a * V b ∧ Dg (zb7 a b o) ∧ (zb7 a b o).length = o.length
 | [], b, o, ha, hb, ho, hz => by simp [zb7, ho]
 | x :: a, b, o, ha, hb, ho, hz => by
  have hr := zf8 ha.head b o 0 a.length hb ho (by omega) (by simpa using hz)
  obtain ⟨r0, r, he⟩ : ∃ r0 r', zad x b o 0 = r0 :: r' := by
   cases h : zad x b o 0 with
   | nil =>
    have hl := hr.2.2.2
    rw [h] at hl
    have : o = [] := List.eq_nil_of_length_eq_zero (by simpa using hl.symm)
    subst this; simp at hz
   | cons r0 r' => exact ⟨r0, r', rfl⟩
  rw [he] at hr
  have := zhr a b r ha.tail hb hr.2.1.tail (by simpa using hr.2.2.1)
  simp only [zb7, he, List.headD_cons, List.tail_cons]
  refine ⟨?_, Dg.cons hr.2.1.head.1 hr.2.1.head.2 this.2.1, ?_⟩
  ·have h1 := hr.1
   rw [zF] at h1
   rw [zF, this.1, zF, Nat.add_mul, Nat.mul_add, Nat.mul_assoc]
   simp at h1
   omega
  ·have := hr.2.2.2
   simp at this ⊢; omega
theorem zff {l : List Int} (h : Nm l) (h0 : l ≠ []) : 4294967296 ^ (l.length - 1) ≤ V l := by
 have h1 : V l ≠ 0 := fun e => h0 ((zcZ h).1 e)
 have := ziW h1
 rwa [h.len] at this
def conv : List Int → List Int → Nat → Nat
 | [], _, _ => 0
 | x :: _, b, 0 => x.toNat * (b.getD 0 0).toNat
 | x :: a, b, k + 1 => x.toNat * (b.getD (k + 1) 0).toNat + conv a b k
def zbx (a b : List Int) : Nat → Nat
 | 0 => 0
 | n + 1 => zbx a b n + 4294967296 ^ n * conv a b n
theorem zgB (l : List Int) (n : Nat) : V (l.take (n + 1)) = V (l.take n) + 4294967296 ^ n * (l.getD n 0).toNat := by
 by_cases h : n < l.length
 ·exact zey h
 ·have e : l.getD n 0 = 0 := by rw [List.getD_eq_getElem?_getD, List.getElem?_eq_none (by omega)]; rfl
  rw [List.take_of_length_le (by omega), List.take_of_length_le (by omega), e]; simp
theorem zjC (b : List Int) (n : Nat) : zbx [] b n = 0 := by
 induction n with
 | zero => rfl
 | succ n ih => simp [zbx, ih, conv]
theorem zjB (x : Int) (a b : List Int) (n : Nat) : zbx (x :: a) b (n + 1) = x.toNat * V (b.take (n + 1)) + 4294967296 * zbx a b n := by
 induction n with
 | zero =>
  have := zgB b 0
  simp at this
  simp [zbx, conv, this]
 | succ n ih =>
  have e := zgB b (n + 1)
  rw [zbx, ih, conv, e, zbx, Nat.pow_succ]
  grind
theorem zjA (a b : List Int) (n : Nat) (h : a.length + b.length ≤ n) : zbx a b n = V a * V b := by
 induction a generalizing n with
 | nil => simp [zjC]
 | cons x a ih =>
  cases n with
  | zero => simp at h
  | succ n =>
   rw [zjB, ih n (by simp at h; omega), List.take_of_length_le (by simp at h; omega), zF, Nat.add_mul, Nat.mul_assoc]
theorem zjE {a b : List Int} (ha : Dg a) (hb : Dg b) (k : Nat) : conv a b k ≤ a.length * 18446744065119617025 := by
 induction a generalizing k with
 | nil => simp [conv]
 | cons x a ih =>
  have hx := ha.head
  have key : ∀ j, x.toNat * (b.getD j 0).toNat ≤ 18446744065119617025 := by
   intro j
   have hy := hb.getD j
   have hp := zeQ hx hy
   rw [← zgg hx.1 hy.1]; omega
  cases k with
  | zero => rw [conv]; have := key 0; simp only [List.length_cons]; omega
  | succ k => rw [conv]; have := key (k + 1); have := ih ha.tail k; simp only [List.length_cons]; omega
theorem zjD {a b : List Int} {k : Nat} (h : b.length ≤ k) (hk : 0 < k) : conv a b k = conv (a.drop 1) b (k - 1) := by
 cases a with
 | nil => simp [conv]
 | cons x a =>
  obtain ⟨k, rfl⟩ : ∃ m, k = m + 1 := ⟨k - 1, by omega⟩
  have e : b.getD (k + 1) 0 = 0 := by rw [List.getD_eq_getElem?_getD, List.getElem?_eq_none (by omega)]; rfl
  rw [conv, e]; simp
theorem zg2 (a b : List Int) (k : Nat) : ∀ n, n + b.length ≤ k + 1 → n ≤ k → conv a b k = conv (a.drop n) b (k - n)
 | 0, _, _ => by simp
 | n + 1, h, hk => by
  rw [zg2 a b k n (by omega) (by omega), zjD (by omega) (by omega), List.drop_drop]
  rw [Nat.sub_sub]
theorem zkV {x y : Int} (h0 : 0 ≤ x ∧ x < 4294967296) (h1 : 0 ≤ y) : Go.bits .or .u64 x (IntKind.u64.wrap (y * 4294967296)) = x + (y % 4294967296) * 4294967296 := by
 rw [zbG]
 obtain ⟨X, rfl⟩ := Int.eq_ofNat_of_zero_le h0.1
 obtain ⟨Y, rfl⟩ := Int.eq_ofNat_of_zero_le h1
 have e : (Y : Int) * 4294967296 % 18446744073709551616 = ((2 ^ 32 * (Y % 4294967296) : Nat) : Int) := by omega
 rw [e, u64_or_nat _ _ (by omega) (by omega), Nat.or_comm, ← Nat.two_pow_add_eq_or_of_lt (by omega)]
 omega
theorem zf6 (A Bl : List Int) (hA : Dg A) (hB : Dg Bl) (hl : A.length < 1000000000) (hlb : Bl.length < 1000000000) (out : List Int) (k : Nat) (hk : k < A.length + Bl.length) (hout : out.length < 1000000000) (T : Nat) (hT : T < 79228162514264337593543950336000) (res : List Int)
  (H : Ev (fun q => zC.l0 q A Bl (out ++ [((T % 4294967296 : Nat) : Int)]) (((T / 4294967296) % 18446744073709551616 : Nat) : Int) (((T / 4294967296) / 18446744073709551616 : Nat) : Int) ((k + 1 : Nat) : Int)) res) :
  ∀ (d i : Nat) (low high : Int), i + d = k + 1 → 0 ≤ low ∧ low < 18446744073709551616 → 0 ≤ high → k < i + Bl.length → low.toNat + 18446744073709551616 * high.toNat + (if i ≤ k then conv (A.drop i) Bl (k - i) else 0) = T →
  Ev (fun q => zC.l1 q A Bl out low high k i) res
 | d, i, low, high, hd, hlow, hhigh, hi, he => by
  have fin : low.toNat + 18446744073709551616 * high.toNat = T → Ev (fun q => if out.length + ([low % 4294967296] : List Int).length < 35184372088832 then zC.l0 q A Bl (out ++ [low % 4294967296]) (Go.bits .or .u64 (low / 4294967296) (IntKind.u64.wrap (high * 4294967296))) (high / 4294967296) ((k + 1 : Nat) : Int) else none) res := by
   intro e
   (repeat (first | with_reducible refine ep ?_ | with_reducible refine en ?_))
   rw [zkV (by omega) hhigh]
   have e1 : low % 4294967296 = ((T % 4294967296 : Nat) : Int) := by omega
   have e2 : low / 4294967296 + high % 4294967296 * 4294967296 = (((T / 4294967296) % 18446744073709551616 : Nat) : Int) := by omega
   have e3 : high / 4294967296 = (((T / 4294967296) / 18446744073709551616 : Nat) : Int) := by omega
   rw [e1, e2, e3]; exact H
  refine zh ?_
  have e : wrap64 ((k : Int) - (i : Int)) = (k : Int) - (i : Int) := by unfold wrap64; omega
  simp only [zC.l1, e, z3 (n := i) (by omega), z3 (n := k) (by omega)]
  clear e
  by_cases c1 : i ≤ k
  ·rw [if_pos c1] at he
   by_cases c2 : i < A.length
   ·have hx : A.drop i = A.getD i 0 :: A.drop (i + 1) := by rw [List.drop_eq_getElem_cons c2]; simp [c2]
    have ha := hA.getD i
    have hb := hB.getD (k - i)
    have hp := zeQ ha hb
    have hpN := zgg ha.1 hb.1
    have e : (k : Int) - (i : Int) = ((k - i : Nat) : Int) := by omega
    (repeat (first | with_reducible refine ep ?_ | with_reducible refine en ?_))
    rw [e]
    rw [rdn, rdn, u64 ha.1 (by omega), u64 hb.1 (by omega), u64 hp.1 (by omega)]
    generalize hP : A.getD i 0 * Bl.getD (k - i) 0 = P at *
    have hc : conv (A.drop i) Bl (k - i) = P.toNat + (if i + 1 ≤ k then conv (A.drop (i + 1)) Bl (k - (i + 1)) else 0) := by
     rw [hx, hpN]
     by_cases c3 : i + 1 ≤ k
     ·rw [if_pos c3, show k - i = (k - (i + 1)) + 1 by omega, conv]
     ·rw [if_neg c3, show k - i = 0 by omega, conv]; simp
    rw [hc] at he
    obtain ⟨d, rfl⟩ : ∃ m, d = m + 1 := ⟨d - 1, by omega⟩
    by_cases c4 : low + P < 18446744073709551616
    ·rw [u64 (n := low + P) (by omega) (by omega)]
     (repeat (first | with_reducible refine ep ?_ | with_reducible refine en ?_))
     exact zf6 A Bl hA hB hl hlb out k hk hout T hT res H d (i + 1) (low + P) high (by omega) (by omega) hhigh (by omega) (by omega)
    ·have e5 : IntKind.u64.wrap (low + P) = low + P - 18446744073709551616 := by rw [zbG]; omega
     rw [e5]
     (repeat (first | with_reducible refine ep ?_ | with_reducible refine en ?_))
     rw [u64 (n := high + 1) (by omega) (by omega)]
     exact zf6 A Bl hA hB hl hlb out k hk hout T hT res H d (i + 1) (low + P - 18446744073709551616) (high + 1) (by omega) (by omega) (by omega) (by omega) (by omega)
   ·refine ze (by omega) (zf (by omega) (fin ?_))
    rw [List.drop_eq_nil_of_le (by omega), conv] at he
    omega
  ·rw [if_neg c1] at he
   exact zf (by omega) (fin (by omega))
theorem zh3 (A Bl : List Int) (hA : Dg A) (hB : Dg Bl) (hl : A.length < 100000000) (hlb : Bl.length < 100000000) (hb0 : 0 < Bl.length) : ∀ (d : Nat) (out : List Int) (T : Nat), out.length + d = A.length + Bl.length → Dg out → T < 79228162514264337593543950336 → V out + 4294967296 ^ out.length * T = zbx A Bl out.length →
  Ev (fun q => zC.l0 q A Bl out ((T % 18446744073709551616 : Nat) : Int) ((T / 18446744073709551616 : Nat) : Int) out.length) (D (V A * V Bl))
 | 0, out, T, hd, hg, hT, hv => by
  refine zh ?_
  have e : wrap64 ((A.length : Int) + (Bl.length : Int)) = ((A.length + Bl.length : Nat) : Int) := by unfold wrap64; omega
  simp only [zC.l0, e]
  clear e
  refine zf (by omega) (Ev.bind (zcO hg (by omega)) (zg (Ev.now _) ?_))
  rw [zjA A Bl _ (by omega)] at hv
  have h1 := zbt hA
  have h2 := zbt hB
  have h3 : V A * V Bl < 4294967296 ^ out.length := by
   rw [show out.length = A.length + Bl.length by omega, Nat.pow_add]
   exact Nat.mul_lt_mul'' h1 h2
  have h4 : T = 0 := by
   rcases Nat.eq_zero_or_pos T with h | h
   ·exact h
   ·have := Nat.mul_le_mul_left (4294967296 ^ out.length) h
    omega
  subst h4
  rw [← hv]; simp
 | d + 1, out, T, hd, hg, hT, hv => by
  refine zh ?_
  have e : wrap64 ((A.length : Int) + (Bl.length : Int)) = ((A.length + Bl.length : Nat) : Int) := by unfold wrap64; omega
  simp only [zC.l0, e]
  clear e
  have hcl := zjE hA hB out.length
  have hcl2 : A.length * 18446744065119617025 ≤ 100000000 * 18446744065119617025 := Nat.mul_le_mul_right _ (by omega)
  have next : Ev (fun q => zC.l0 q A Bl (out ++ [(((T + conv A Bl out.length) % 4294967296 : Nat) : Int)]) ((((T + conv A Bl out.length) / 4294967296) % 18446744073709551616 : Nat) : Int) ((((T + conv A Bl out.length) / 4294967296) / 18446744073709551616 : Nat) : Int) ((out.length + 1 : Nat) : Int)) (D (V A * V Bl)) := by
   have := zh3 A Bl hA hB hl hlb hb0 d (out ++ [(((T + conv A Bl out.length) % 4294967296 : Nat) : Int)]) ((T + conv A Bl out.length) / 4294967296) (by simp; omega) (hg.app (Dg.cons (by omega) (by omega) Dg.nil)) (by omega) (by
    rw [zbH, List.length_append, List.length_singleton, zbx, ← hv, Nat.pow_succ, Nat.mul_assoc, Nat.add_assoc, ← Nat.mul_add, Nat.add_assoc, ← Nat.mul_add]
    congr 2
    simp only [zF, zO]
    omega)
   rwa [List.length_append, List.length_singleton] at this
  (repeat (first | with_reducible refine ep ?_ | with_reducible refine en ?_))
  have j2 : ∀ (i : Nat), i ≤ out.length → out.length < i + Bl.length → conv A Bl out.length = conv (A.drop i) Bl (out.length - i) → Ev (fun q => zC.j3 q A Bl out ((T % 18446744073709551616 : Nat) : Int) ((T / 18446744073709551616 : Nat) : Int) out.length i) (D (V A * V Bl)) := by
   intro i h1 h2 h3
   refine zh ?_
   simp only [zC.j3]
   exact zf6 A Bl hA hB (by omega) (by omega) out out.length (by omega) (by omega) (T + conv A Bl out.length) (by omega) _ next (out.length + 1 - i) i _ _ (by omega) (by omega) (by omega) h2 (by rw [if_pos h1, ← h3]; omega)
  by_cases c1 : out.length ≥ Bl.length
  ·(repeat (first | with_reducible refine ep ?_ | with_reducible refine en ?_))
   have c2 := hb0
   ·have e : wrap64 (wrap64 ((out.length : Int) - (Bl.length : Int)) + 1) = ((out.length + 1 - Bl.length : Nat) : Int) := by unfold wrap64; omega
    rw [e]
    clear e
    exact j2 _ (by omega) (by omega) (zg2 A Bl out.length _ (by omega) (by omega))
  ·(repeat (first | with_reducible refine ep ?_ | with_reducible refine en ?_)); exact j2 0 (by omega) (by omega) (by simp)
theorem zlw {a b : List Int} (ha : Dg a) (hb : Dg b) (la : a.length < 100000000) (lb : b.length < 100000000) : Ev (fun k => zC.f k a b) (D (V a * V b)) := by
 unfold zC.f
 by_cases c1 : a.length = 0
 ·(repeat (first | with_reducible refine ep ?_ | with_reducible refine en ?_))
  have : a = [] := List.eq_nil_of_length_eq_zero c1
  subst this
  refine zg (Ev.now _) ?_
  simp [zN]
 ·(repeat (first | with_reducible refine ep ?_ | with_reducible refine en ?_))
  by_cases c2 : b.length = 0
  ·(repeat (first | with_reducible refine ep ?_ | with_reducible refine en ?_))
   have : b = [] := List.eq_nil_of_length_eq_zero c2
   subst this
   refine zg (Ev.now _) ?_
   simp [zN]
  ·(repeat (first | with_reducible refine ep ?_ | with_reducible refine en ?_))
   have := zh3 a b ha hb la lb (by omega) (a.length + b.length) [] 0 (by simp) Dg.nil (by omega) (by simp [zbx])
   simpa using this
def bl (n : Nat) : Nat := if n = 0 then 0 else n.log2 + 1
theorem zbv : bl 0 = 0 := rfl
theorem zcp {n : Nat} (h : n ≠ 0) : 2 ^ (bl n - 1) ≤ n := by
 unfold bl; rw [if_neg h]; exact Nat.log2_self_le h
theorem zac (n : Nat) : n < 2 ^ bl n := by
 unfold bl
 split
 ·subst n; simp
 ·exact Nat.lt_log2_self
theorem zbW {n : Nat} (h : n ≠ 0) : 0 < bl n := by unfold bl; rw [if_neg h]; omega
theorem zP {n k : Nat} (h : n < 2 ^ k) : bl n ≤ k := by
 by_cases e : n = 0
 ·subst e; simp [zbv]
 ·have h1 := zcp e
  have h2 := zbW e
  have : bl n - 1 < k := (Nat.pow_lt_pow_iff_right (a := 2) (by omega)).1 (Nat.lt_of_le_of_lt h1 h)
  omega
theorem zjp {n k : Nat} (h1 : 2 ^ k ≤ n) (h2 : n < 2 ^ (k + 1)) : bl n = k + 1 := by
 have := zP h2
 have h3 : 2 ^ k < 2 ^ bl n := Nat.lt_of_le_of_lt h1 (zac n)
 have := (Nat.pow_lt_pow_iff_right (a := 2) (by omega)).1 h3
 omega
theorem zdB {n k : Nat} (h : 2 ^ k ≤ n) : bl n = k + bl (n / 2 ^ k) := by
 have hp : 0 < 2 ^ k := Nat.pow_pos (by omega)
 have h0 : n / 2 ^ k ≠ 0 := by
  have := (Nat.le_div_iff_mul_le hp (x := 1) (y := n)).2 (by omega)
  omega
 have h1 := zcp h0
 have h2 := zac (n / 2 ^ k)
 have h3 := zbW h0
 have e : k + bl (n / 2 ^ k) = (k + (bl (n / 2 ^ k) - 1)) + 1 := by omega
 rw [e]
 apply zjp
 ·rw [Nat.pow_add]
  have := (Nat.le_div_iff_mul_le hp).1 h1
  rw [Nat.mul_comm]; exact this
 ·have := (Nat.div_lt_iff_lt_mul hp).1 h2
  rw [show k + (bl (n / 2 ^ k) - 1) + 1 = bl (n / 2 ^ k) + k by omega, Nat.pow_add]
  exact this
theorem zjn {n : Nat} (h : n ≠ 0) : bl n = bl (n / 2) + 1 := by
 by_cases h1 : n = 1
 ·subst h1; rfl
 ·have := zdB (n := n) (k := 1) (by omega)
  simp at this; omega
theorem zbu {a b : Nat} (h : a ≤ b) : bl a ≤ bl b := zP (Nat.lt_of_le_of_lt h (zac b))
def ziw : ByteArray := ⟨#[0, 1, 2, 2, 3, 3, 3, 3, 4, 4, 4, 4, 4, 4, 4, 4, 5, 5, 5, 5, 5, 5, 5, 5, 5, 5, 5, 5, 5, 5, 5, 5, 6, 6, 6, 6, 6, 6, 6, 6, 6, 6, 6, 6, 6, 6, 6, 6, 6, 6, 6, 6, 6, 6, 6, 6, 6, 6, 6, 6, 6, 6, 6, 6, 7, 7, 7, 7, 7, 7, 7, 7, 7, 7, 7, 7, 7, 7, 7, 7, 7, 7, 7, 7, 7, 7, 7, 7, 7, 7, 7, 7, 7, 7, 7, 7, 7, 7, 7, 7, 7, 7, 7, 7, 7, 7, 7, 7, 7, 7, 7, 7, 7, 7, 7, 7, 7, 7, 7, 7, 7, 7, 7, 7, 7, 7, 7, 7, 8, 8, 8, 8, 8, 8, 8, 8, 8, 8, 8, 8, 8, 8, 8, 8, 8, 8, 8, 8, 8, 8, 8, 8, 8, 8, 8, 8, 8, 8, 8, 8, 8, 8, 8, 8, 8, 8, 8, 8, 8, 8, 8, 8, 8, 8, 8, 8, 8, 8, 8, 8, 8, 8, 8, 8, 8, 8, 8, 8, 8, 8, 8, 8, 8, 8, 8, 8, 8, 8, 8, 8, 8, 8, 8, 8, 8, 8, 8, 8, 8, 8, 8, 8, 8, 8, 8, 8, 8, 8, 8, 8, 8, 8, 8, 8, 8, 8, 8, 8, 8, 8, 8, 8, 8, 8, 8, 8, 8, 8, 8, 8, 8, 8, 8, 8, 8, 8, 8, 8, 8, 8, 8, 8, 8, 8, 8, 8]⟩
theorem zl6 : (List.range 256).all (fun i => bt ziw (i : Int) == (bl i : Int)) = true := by decide +kernel
theorem bt8 {t : ByteArray} {n : Nat} (h : n < 256) (ht : t = ziw) : bt t (n : Int) = (bl n : Int) := by
 subst ht
 have := List.all_eq_true.1 zl6 n (List.mem_range.2 h)
 exact eq_of_beq this
theorem zjm {n : Nat} (h : n < 256) : bl n ≤ 8 := zP h
theorem zks : zgh.size = 256 := by decide +kernel
theorem zhi {n : Nat} (h : n < 256) {m : Int} (hm : 0 ≤ m ∧ m ≤ 64) : Ev (fun k => zas.j1 k (n : Int) m) (m + (bl n : Nat)) := by
 refine zh ?_
 simp only [zas.j1]
 have e : (n : Int) % 256 = n := by omega
 have l := zjm h
 rw [e, zks]
 (repeat (first | with_reducible refine ep ?_ | with_reducible refine en ?_))
 rw [bt8 h (by rfl), za0 (n := ((bl n : Nat) : Int)) (by omega) (by omega), za0 (by omega) (by omega)]
 exact Ev.now _
theorem zhh {n : Nat} (h : n < 65536) {m : Int} (hm : 0 ≤ m ∧ m ≤ 32) : Ev (fun k => zas.j0 k (n : Int) m) (m + (bl n : Nat)) := by
 refine zh ?_
 simp only [zas.j0]
 by_cases c : n ≥ 256
 ·(repeat (first | with_reducible refine ep ?_ | with_reducible refine en ?_))
  have e2 : bl n = 8 + bl (n / 256) := zdB (k := 8) c
  have := zhi (n := n / 256) (by omega) (m := m + 8) (by omega)
  rw [za0 (by omega) (by omega), show (n : Int) / 256 = ((n / 256 : Nat) : Int) by omega]
  exact zg this (by rw [e2]; omega)
 ·(repeat (first | with_reducible refine ep ?_ | with_reducible refine en ?_))
  exact zhi (by omega) (by omega)
theorem zkr {x : Int} (h : 0 ≤ x ∧ x < 4294967296) : Ev (fun k => zas.f k x) ((bl x.toNat : Nat) : Int) := by
 obtain ⟨n, rfl⟩ := Int.eq_ofNat_of_zero_le h.1
 unfold zas.f
 rw [Int.toNat_natCast]
 by_cases c : n ≥ 65536
 ·(repeat (first | with_reducible refine ep ?_ | with_reducible refine en ?_))
  have e1 : bl n = 16 + bl (n / 65536) := zdB (k := 16) c
  rw [show (n : Int) / 65536 = ((n / 65536 : Nat) : Int) by omega]
  exact zg (zhh (by omega) (by omega)) (by rw [e1]; omega)
 ·(repeat (first | with_reducible refine ep ?_ | with_reducible refine en ?_))
  exact zg (zhh (by omega) (by omega)) (by omega)
theorem zlC : ∀ (n : Nat) (m : Int), 0 ≤ m ∧ m + (bl n : Nat) < 4611686018427387904 → n < 4294967296 → Ev (fun k => zQ.l0 k m n) (m + (bl n : Nat)) := by
 intro n
 induction n using Nat.strongRecOn with
 | _ n ih =>
  intro m hm hn
  refine zh ?_
  simp only [zQ.l0]
  by_cases c : n = 0
  ·subst c
   (repeat (first | with_reducible refine ep ?_ | with_reducible refine en ?_))
   exact zg (Ev.now _) (by simp [zbv])
  ·(repeat (first | with_reducible refine ep ?_ | with_reducible refine en ?_))
   have e : (n : Int) / 2 = ((n / 2 : Nat) : Int) := by omega
   have hb := zjn c
   rw [e, za0 (by omega) (by omega)]
   refine zg (ih (n / 2) (by omega) (m + 1) (by omega) (by omega)) ?_
   omega
theorem zgN {l : List Int} (h : Nm l) (h0 : l ≠ []) : bl (V l) = 32 * (l.length - 1) + bl (l.getD (l.length - 1) 0).toNat := by
 rcases List.eq_nil_or_concat l with rfl | ⟨a, d, rfl⟩
 ·exact absurd rfl h0
 rw [List.concat_eq_append] at h ⊢
 have hd := h.dg d (by simp)
 have hn := zgr h
 have e : (a ++ [d]).getD ((a ++ [d]).length - 1) 0 = d := by simp
 rw [e]
 have hl : (a ++ [d]).length - 1 = a.length := by simp
 rw [hl, zbH]
 simp only [zF, zO, Nat.mul_zero, Nat.add_zero]
 have hv := zbt h.dg.left
 have hp : (4294967296 : Nat) ^ a.length = 2 ^ (32 * a.length) := by rw [Nat.pow_mul]
 rw [hp] at hv ⊢
 have hpos : 0 < 2 ^ (32 * a.length) := Nat.pow_pos (by omega)
 have hd1 : 2 ^ (32 * a.length) * 1 ≤ 2 ^ (32 * a.length) * d.toNat := Nat.mul_le_mul_left _ (by omega)
 rw [zdB (n := V a + 2 ^ (32 * a.length) * d.toNat) (k := 32 * a.length) (by omega)]
 rw [Nat.add_mul_div_left _ _ hpos, Nat.div_eq_of_lt hv, Nat.zero_add]
theorem zbS {l : List Int} (h : Nm l) (hb : l.length < 1000000000) : Ev (fun k => zQ.f k l) ((bl (V l) : Nat) : Int) := by
 unfold zQ.f
 by_cases c : l.length = 0
 ·have : l = [] := List.eq_nil_of_length_eq_zero c
  subst this
  (repeat (first | with_reducible refine ep ?_ | with_reducible refine en ?_)); exact Ev.now _
 ·(repeat (first | with_reducible refine ep ?_ | with_reducible refine en ?_))
  have e : wrap64 ((l.length : Int) - 1) = ((l.length - 1 : Nat) : Int) := by unfold wrap64; omega
  rw [e]
  clear e
  (repeat (first | with_reducible refine ep ?_ | with_reducible refine en ?_))
  have hd := h.dg.getD (l.length - 1)
  rw [rdn, za0 (by omega) (by omega)]
  generalize hx : l.getD (l.length - 1) 0 = x at hd
  obtain ⟨n, rfl⟩ := Int.eq_ofNat_of_zero_le hd.1
  have hbn : bl n ≤ 32 := zP (by omega)
  refine zg (zlC n _ (by omega) (by omega)) ?_
  have hne : l ≠ [] := fun e => c (by rw [e]; rfl)
  have hm := zgq h.dg |>.1 h
  rw [zgN h hne, hx]
  simp
theorem zkU {x y : Int} (h0 : 0 ≤ x ∧ x < 4294967296) (h1 : 0 ≤ y ∧ y < 4294967296) : Go.bits .or .u64 (x * 4294967296) y = x * 4294967296 + y := by
 obtain ⟨X, rfl⟩ := Int.eq_ofNat_of_zero_le h0.1
 obtain ⟨Y, rfl⟩ := Int.eq_ofNat_of_zero_le h1.1
 have e : (X : Int) * 4294967296 = ((2 ^ 32 * X : Nat) : Int) := by omega
 rw [e, u64_or_nat _ _ (by omega) (by omega), ← Nat.two_pow_add_eq_or_of_lt (by omega)]
 omega
theorem zl8 {r x d : Int} (hr : 0 ≤ r ∧ r < d) (hx : 0 ≤ x ∧ x < 4294967296) (hd : d < 4294967296) : 0 ≤ (r * 4294967296 + x) / d ∧ (r * 4294967296 + x) / d < 4294967296 := by
 constructor
 ·exact Int.ediv_nonneg (by omega) (by omega)
 ·apply Int.ediv_lt_of_lt_mul (by omega)
  have : r * 4294967296 + 4294967296 ≤ d * 4294967296 := by omega
  rw [Int.mul_comm]; omega
theorem zmv (n : Nat) (l : List Int) : List.replicate (n + 1) (0 : Int) ++ l = List.replicate n 0 ++ 0 :: l := by
 rw [List.replicate_succ', List.append_assoc]; rfl
theorem zlT (t P X R E w : Nat) (hE : 0 < E) :
  (t + P * X + P * 4294967296 * R) / E + P * 4294967296 * w = (t + P * ((R * 4294967296 + X) % E)) / E + P * ((R * 4294967296 + X) / E + 4294967296 * w) ∧
  (t + P * X + P * 4294967296 * R) % E = (t + P * ((R * 4294967296 + X) % E)) % E := by
 have h := Nat.div_add_mod (R * 4294967296 + X) E
 have e4 : P * (R * 4294967296 + X) = P * 4294967296 * R + P * X := by rw [Nat.mul_add, Nat.mul_comm R, Nat.mul_assoc]
 generalize (R * 4294967296 + X) / E = q at *
 generalize (R * 4294967296 + X) % E = m at *
 have e3 : P * (E * q + m) = E * (P * q) + P * m := by rw [Nat.mul_add, Nat.mul_left_comm]
 rw [h, e4] at e3
 have key : t + P * X + P * 4294967296 * R = t + P * m + E * (P * q) := by
  rw [Nat.add_assoc, Nat.add_comm (P * X), e3, Nat.add_assoc, Nat.add_comm (P * m)]
 rw [key, Nat.add_mul_div_left _ _ hE, Nat.add_mul_mod_self_left, Nat.mul_add, Nat.mul_assoc P, Nat.add_assoc]
 exact ⟨rfl, rfl⟩
theorem zlU {a : List Int} (ha : Dg a) {i : Nat} (hi : i < a.length) {r d : Int} (hr : 0 ≤ r ∧ r < d) (w : Nat) :
  (V (a.take (i + 1)) + 4294967296 ^ (i + 1) * r.toNat) / d.toNat + 4294967296 ^ (i + 1) * w =
   (V (a.take i) + 4294967296 ^ i * ((r * 4294967296 + a.getD i 0) % d).toNat) / d.toNat + 4294967296 ^ i * (((r * 4294967296 + a.getD i 0) / d).toNat + 4294967296 * w) ∧
  (V (a.take (i + 1)) + 4294967296 ^ (i + 1) * r.toNat) % d.toNat = (V (a.take i) + 4294967296 ^ i * ((r * 4294967296 + a.getD i 0) % d).toNat) % d.toNat := by
 have hx := ha.getD i
 rw [zey hi]
 obtain ⟨R, rfl⟩ := Int.eq_ofNat_of_zero_le hr.1
 obtain ⟨E, rfl⟩ := Int.eq_ofNat_of_zero_le (show 0 ≤ d by omega)
 obtain ⟨X, hX⟩ := Int.eq_ofNat_of_zero_le hx.1
 rw [hX]
 have hE : 0 < E := by omega
 clear hx hX hr ha hi
 have e1 : ((R : Int) * 4294967296 + X) % E = (((R * 4294967296 + X) % E : Nat) : Int) := by
  rw [Int.natCast_emod, Int.natCast_add, Int.natCast_mul, Int.cast_ofNat_Int]
 have e2 : ((R : Int) * 4294967296 + X) / E = (((R * 4294967296 + X) / E : Nat) : Int) := by
  rw [Int.natCast_ediv, Int.natCast_add, Int.natCast_mul, Int.cast_ofNat_Int]
 rw [e1, e2]
 rw [Int.toNat_natCast, Int.toNat_natCast, Int.toNat_natCast, Int.toNat_natCast, Int.toNat_natCast, Nat.pow_succ]
 exact zlT _ _ _ _ _ _ hE
theorem zib {a : List Int} (ha : Dg a) (hl : a.length < 1000000000) {d : Int} (hd : 0 < d ∧ d < 4294967296) : ∀ (i : Nat) (r : Int) (done : List Int), i + done.length = a.length → 0 ≤ r ∧ r < d → Dg done →
  Ev (fun k => zbd.l0 k a d (List.replicate i 0 ++ done) r ((i : Int) - 1)) (D ((V (a.take i) + 4294967296 ^ i * r.toNat) / d.toNat + 4294967296 ^ i * V done), D ((V (a.take i) + 4294967296 ^ i * r.toNat) % d.toNat))
 | 0, r, done, hi, hr, hg => by
  refine zh ?_
  simp only [zbd.l0]
  (repeat (first | with_reducible refine ep ?_ | with_reducible refine en ?_))
  refine Ev.bind (zcO (l := List.replicate 0 0 ++ done) (by simpa using hg) (by simp; omega)) (Ev.bind (ze2 hr.1 (by omega)) (zg (Ev.now _) ?_))
  have h1 : r.toNat / d.toNat = 0 := Nat.div_eq_of_lt (by omega)
  have h2 : r.toNat % d.toNat = r.toNat := Nat.mod_eq_of_lt (by omega)
  simp [h1, h2]
 | i + 1, r, done, hi, hr, hg => by
  have e0 : ((i + 1 : Nat) : Int) - 1 = (i : Int) := by omega
  have hx := ha.getD i
  have ht := zl8 hr hx hd.2
  have st := zlU ha (i := i) (by omega) hr (V done)
  have hm0 : 0 ≤ (r * 4294967296 + a.getD i 0) % d := Int.emod_nonneg _ (by omega)
  have hm1 : (r * 4294967296 + a.getD i 0) % d < d := Int.emod_lt_of_pos _ (by omega)
  have ih := zib ha hl hd i ((r * 4294967296 + a.getD i 0) % d) (((r * 4294967296 + a.getD i 0) / d) :: done) (by simp; omega) ⟨hm0, hm1⟩ (Dg.cons ht.1 ht.2 hg)
  rw [e0]
  refine zh ?_
  simp only [zbd.l0, zds (n := i) (by omega)]
  (repeat (first | with_reducible refine ep ?_ | with_reducible refine en ?_))
  rw [rdn, u64 (n := d) (by omega) (by omega), u64 (n := r * 4294967296) (by omega) (by omega), u64 (n := a.getD i 0) (by omega) (by omega), zkU (by omega) hx,
   Int.tdiv_eq_ediv_of_nonneg (by omega), Int.tmod_eq_emod_of_nonneg (by omega), u64 ht.1 (by omega), Int.emod_eq_of_lt ht.1 ht.2]
  (repeat (first | with_reducible refine ep ?_ | with_reducible refine en ?_))
  have hs : (List.replicate (i + 1) (0 : Int) ++ done).set ((i : Int)).toNat ((r * 4294967296 + a.getD i 0) / d) = List.replicate i 0 ++ ((r * 4294967296 + a.getD i 0) / d) :: done := by
   rw [zmv, zcP (by simp)]; simp
  rw [hs]
  refine zg ih ?_
  rw [zF, st.1, st.2]
theorem zlB {a : List Int} (ha : Dg a) (hl : a.length < 1000000000) {d : Int} (hd : 0 < d ∧ d < 4294967296) : Ev (fun k => zbd.f k a d) (D (V a / d.toNat), D (V a % d.toNat)) := by
 unfold zbd.f
 (repeat (first | with_reducible refine ep ?_ | with_reducible refine en ?_))
 have := zib ha hl hd a.length 0 [] (by simp) (by omega) Dg.nil
 rw [zds (by omega)]
 simpa using this
theorem pw {s : Nat} (h : s ≤ 32) : 2 ^ s * 2 ^ (32 - s) = 4294967296 := by
 rw [← Nat.pow_add]; have : s + (32 - s) = 32 := by omega
 rw [this]
theorem zk (s : Nat) : 0 < 2 ^ s := Nat.pow_pos (by omega)
theorem zdq {X P Q c : Nat} (hP : 0 < P) (hc : c < P) : (X * P + c) / (P * Q) = X / Q ∧ (X * P + c) % (P * Q) = P * (X % Q) + c := by
 have h1 : (X * P + c) / P = X := by rw [Nat.mul_comm, Nat.mul_add_div hP, Nat.div_eq_of_lt hc, Nat.add_zero]
 have h2 : (X * P + c) % P = c := by rw [Nat.mul_comm, Nat.mul_add_mod, Nat.mod_eq_of_lt hc]
 exact ⟨by rw [← Nat.div_div_eq_div_mul, h1], by rw [Nat.mod_mul, h1, h2, Nat.add_comm]⟩
theorem zeV (s : Nat) : ((2 : Int) ^ s) = ((2 ^ s : Nat) : Int) := by simp
theorem zij (X s : Nat) (hs : s < 32) : shl .u32 (X : Int) (s : Int) = ((X * 2 ^ s % 4294967296 : Nat) : Int) := by
 unfold shl
 rw [Int.toNat_natCast, Nat.min_eq_left (by simp [IntKind.bits]; omega), zeV, ← Int.natCast_mul]
 simp [IntKind.wrap, IntKind.bits, IntKind.signed]
theorem zgc (X s : Nat) (hs : s ≤ 32) (hX : X < 4294967296) : shl .u64 (X : Int) (s : Int) = ((X * 2 ^ s : Nat) : Int) := by
 unfold shl
 rw [Int.toNat_natCast, Nat.min_eq_left (by simp [IntKind.bits]; omega), zeV, ← Int.natCast_mul]
 have h1 : 2 ^ s ≤ 2 ^ 32 := Nat.pow_le_pow_right (by omega) hs
 have h2 : X * 2 ^ s ≤ 4294967295 * 2 ^ 32 := Nat.mul_le_mul (by omega) h1
 exact u64 (by omega) (by omega)
theorem zcR {k : IntKind} (X s : Nat) (hs : s ≤ k.bits) : shr k (X : Int) (s : Int) = ((X / 2 ^ s : Nat) : Int) := by
 unfold shr
 rw [Int.toNat_natCast, Nat.min_eq_left hs, zeV, ← Int.natCast_ediv]
theorem zdW (X : Nat) (hX : X < 4294967296) : IntKind.u64.wrap (X : Int) = (X : Int) := u64 (by omega) (by omega)
theorem zgk {s : Nat} (hs : s ≤ 32) : wrap64 (32 - (s : Int)) = ((32 - s : Nat) : Int) := by unfold wrap64; omega
theorem zd6 {X s : Nat} (hs : s ≤ 32) (hX : X < 4294967296) : X / 2 ^ s < 2 ^ (32 - s) := by
 rw [Nat.div_lt_iff_lt_mul (zk _), Nat.mul_comm, pw hs]; exact hX
theorem zmj (X s c : Nat) (hs : s < 32) (hX : X < 4294967296) (hc : c < 2 ^ s) : Go.bits .or .u32 (shl .u32 (X : Int) (s : Int)) (c : Int) = (((X * 2 ^ s + c) % 4294967296 : Nat) : Int) := by
 have h1 := (zdq (X := X) (Q := 2 ^ (32 - s)) (zk s) hc).2
 have h0 := (zdq (X := X) (Q := 2 ^ (32 - s)) (c := 0) (zk s) (zk s)).2
 have hle : 2 ^ s ≤ 2 ^ 31 := Nat.pow_le_pow_right (by omega) (by omega)
 rw [pw (by omega)] at h1 h0
 rw [zij _ _ hs, u32_or_nat _ _ (by omega) (by omega), h1]
 rw [Nat.add_zero, Nat.add_zero] at h0
 rw [h0, ← Nat.two_pow_add_eq_or_of_lt hc]
theorem zmi (X s c : Nat) (hs : s < 32) (hX : X < 4294967296) (hc : c < 2 ^ s) : (shr .u64 (IntKind.u64.wrap (X : Int)) (wrap64 (32 - (s : Int)))) % 4294967296 = (((X * 2 ^ s + c) / 4294967296 : Nat) : Int) := by
 have h1 := (zdq (X := X) (Q := 2 ^ (32 - s)) (zk s) hc).1
 rw [pw (by omega)] at h1
 rw [zdW _ hX, zgk (by omega), zcR _ _ (by simp [IntKind.bits]; omega), h1]
 have := zd6 (s := 32 - s) (by omega) hX
 have h3 : X / 2 ^ (32 - s) ≤ X := Nat.div_le_self _ _
 omega
theorem zgi (X s c : Nat) (hs : s < 32) (hX : X < 4294967296) (hc : c < 2 ^ s) : (X * 2 ^ s + c) / 4294967296 < 2 ^ s := by
 have h1 := (zdq (X := X) (Q := 2 ^ (32 - s)) (zk s) hc).1
 rw [pw (by omega)] at h1
 rw [h1]
 have := zd6 (s := 32 - s) (by omega) hX
 have e : 32 - (32 - s) = s := by omega
 rwa [e] at this
theorem zlO (X s c : Nat) (hs : s < 32) (hX : X < 4294967296) (hc : c < 2 ^ s) : Go.bits .or .u64 (c : Int) (shl .u64 (IntKind.u64.wrap (X : Int)) (s : Int)) = ((X * 2 ^ s + c : Nat) : Int) := by
 have hle : 2 ^ s ≤ 2 ^ 31 := Nat.pow_le_pow_right (by omega) (by omega)
 have h2 : X * 2 ^ s ≤ 4294967295 * 2 ^ 31 := Nat.mul_le_mul (by omega) hle
 rw [zdW _ hX, zgc _ _ (by omega) hX, u64_or_nat _ _ (by omega) (by omega), Nat.or_comm, Nat.mul_comm X, ← Nat.two_pow_add_eq_or_of_lt hc]
def zca (P : Nat) : List Int → Nat → List Int
 | [], c => [(c : Int)]
 | d :: l, c => (((d.toNat * P + c) % 4294967296 : Nat) : Int) :: zca P l ((d.toNat * P + c) / 4294967296)
theorem ziC {s : Nat} (hs : s < 32) : ∀ (l : List Int) (c : Nat), Dg l → c < 2 ^ s → V (zca (2 ^ s) l c) = V l * 2 ^ s + c ∧ Dg (zca (2 ^ s) l c)
 | [], c, _, hc => by
  have hle : 2 ^ s ≤ 2 ^ 31 := Nat.pow_le_pow_right (by omega) (by omega)
  simp only [zca, zF, zO]
  exact ⟨by omega, Dg.cons (by omega) (by omega) Dg.nil⟩
 | d :: l, c, hg, hc => by
  have hd := hg.head
  have hX : d.toNat < 4294967296 := by omega
  have ih := ziC hs l _ hg.tail (zgi d.toNat s c hs hX hc)
  simp only [zca, zF, ih.1]
  refine ⟨?_, Dg.cons (by omega) (by omega) ih.2⟩
  generalize hm : d.toNat * 2 ^ s + c = m
  rw [Nat.add_mul, Nat.mul_assoc]
  generalize V l * 2 ^ s = z
  omega
theorem nn {i : Nat} : 0 ≤ (i : Int) := Int.natCast_nonneg i
theorem ziE (A : List Int) (hA : Dg A) (hl : A.length < 1000000000) {s : Nat} (hs : s < 32) : ∀ (a done pa : List Int) (c : Nat), A = pa ++ a → c < 2 ^ s → Dg done → done.length + a.length < 2000000000 →
  Ev (fun k => zbo.l0 k done s c A A.length pa.length) (D (V (done ++ zca (2 ^ s) a c)))
 | [], done, pa, c, he, hc, hg, hb => by
  have hlen : A.length = pa.length := by rw [he]; simp
  have hle : 2 ^ s ≤ 2 ^ 31 := Nat.pow_le_pow_right (by omega) (by omega)
  refine zh ?_
  simp only [zbo.l0]
  (repeat (first | with_reducible refine ep ?_ | with_reducible refine en ?_))
  exact Ev.bind (zdO (hg.app (Dg.cons (by omega) (by omega) Dg.nil)) (by simp at hb ⊢; omega)) (Ev.now _)
 | d :: a, done, pa, c, he, hc, hg, hb => by
  have hlen : A.length = pa.length + 1 + a.length := by rw [he]; simp; omega
  have hd : 0 ≤ d ∧ d < 4294967296 := by rw [he] at hA; exact hA.right.head
  obtain ⟨X, rfl⟩ := Int.eq_ofNat_of_zero_le hd.1
  have hX : X < 4294967296 := by omega
  have h1 : rd A (pa.length : Int) = (X : Int) := by rw [he]; exact zaY rfl
  refine zh ?_
  simp only [zbo.l0, h1, z3 (n := pa.length) (by omega), zmj X s c hs hX hc, zmi X s c hs hX hc]
  have w32 : wrap64 (32 - (s : Int)) = 32 - (s : Int) := by unfold wrap64; omega
  (repeat (first | with_reducible refine ep ?_ | with_reducible refine en ?_))
  have := ziE A hA hl hs a (done ++ [(((X * 2 ^ s + c) % 4294967296 : Nat) : Int)]) (pa ++ [(X : Int)]) ((X * 2 ^ s + c) / 4294967296) (by rw [he]; simp) (zgi X s c hs hX hc) (hg.app (Dg.cons (by omega) (by omega) Dg.nil)) (by simp at hb ⊢; omega)
  rw [List.length_append, List.length_singleton] at this
  refine zg this ?_
  simp [zca]
theorem zig (A : List Int) (hA : Dg A) (hl : A.length < 1000000000) {s : Nat} (hs : s < 32) : ∀ (a done pa : List Int) (c : Nat), A = pa ++ a → c < 2 ^ s → Dg done → done.length + a.length < 2000000000 →
  Ev (fun k => zaf.l0 k A done s c pa.length) (D (V (done ++ zca (2 ^ s) a c)))
 | [], done, pa, c, he, hc, hg, hb => by
  have hlen : A.length = pa.length := by rw [he]; simp
  have hle : 2 ^ s ≤ 2 ^ 31 := Nat.pow_le_pow_right (by omega) (by omega)
  refine zh ?_
  have e : (c : Int) % 4294967296 = (c : Int) := by omega
  simp only [zaf.l0, e]
  (repeat (first | with_reducible refine ep ?_ | with_reducible refine en ?_))
  exact Ev.bind (zcO (hg.app (Dg.cons (by omega) (by omega) Dg.nil)) (by simp at hb ⊢; omega)) (Ev.now _)
 | d :: a, done, pa, c, he, hc, hg, hb => by
  have hlen : A.length = pa.length + 1 + a.length := by rw [he]; simp; omega
  have hd : 0 ≤ d ∧ d < 4294967296 := by rw [he] at hA; exact hA.right.head
  obtain ⟨X, rfl⟩ := Int.eq_ofNat_of_zero_le hd.1
  have hX : X < 4294967296 := by omega
  have h1 : rd A (pa.length : Int) = (X : Int) := by rw [he]; exact zaY rfl
  have e1 : ((X * 2 ^ s + c : Nat) : Int) % 4294967296 = (((X * 2 ^ s + c) % 4294967296 : Nat) : Int) := by omega
  have e2 : ((X * 2 ^ s + c : Nat) : Int) / 4294967296 = (((X * 2 ^ s + c) / 4294967296 : Nat) : Int) := by omega
  refine zh ?_
  simp only [zaf.l0, h1, z3 (n := pa.length) (by omega), zlO X s c hs hX hc, e1, e2]
  (repeat (first | with_reducible refine ep ?_ | with_reducible refine en ?_))
  have := zig A hA hl hs a (done ++ [(((X * 2 ^ s + c) % 4294967296 : Nat) : Int)]) (pa ++ [(X : Int)]) ((X * 2 ^ s + c) / 4294967296) (by rw [he]; simp) (zgi X s c hs hX hc) (hg.app (Dg.cons (by omega) (by omega) Dg.nil)) (by simp at hb ⊢; omega)
  rw [List.length_append, List.length_singleton] at this
  refine zg this ?_
  simp [zca]
theorem t32 {n : Nat} (h : n < 4611686018427387904) : wrap64 (Int.tdiv (n : Int) 32) = ((n / 32 : Nat) : Int) := by
 rw [Int.tdiv_eq_ediv_of_nonneg (by omega)]; unfold wrap64; omega
theorem m32 (n : Nat) : Int.tmod (n : Int) 32 = ((n % 32 : Nat) : Int) := by
 rw [Int.tmod_eq_emod_of_nonneg (by omega)]; omega
theorem zdo (n : Nat) : 2 ^ n = 4294967296 ^ (n / 32) * 2 ^ (n % 32) := by
 have h : (4294967296 : Nat) = 2 ^ 32 := by decide
 rw [h, ← Nat.pow_mul, ← Nat.pow_add]; congr 1; omega
theorem ziD {a : List Int} (ha : Dg a) (n : Nat) : V (List.replicate (n / 32) 0 ++ zca (2 ^ (n % 32)) a 0) = V a * 2 ^ n := by
 have h := (ziC (s := n % 32) (by omega) a 0 ha (zk _)).1
 rw [zbH, zez, List.length_replicate, h, Nat.zero_add, Nat.add_zero, zdo n, Nat.mul_left_comm]
theorem zkP {a : List Int} (ha : Dg a) (la : a.length < 1000000000) (n : Nat) (hn : n < 1000000000) : Ev (fun k => zbo.f k a n) (D (V a * 2 ^ n)) := by
 unfold zbo.f
 have e1 : wrap64 (wrap64 (((n / 32 : Nat) : Int) + (a.length : Int)) + 1) = ((n / 32 + a.length + 1 : Nat) : Int) := by unfold wrap64; omega
 simp only [t32 (n := n) (by omega), m32, e1]
 clear e1
 by_cases h0 : a = []
 ·subst h0
  (repeat (first | with_reducible refine ep ?_ | with_reducible refine en ?_))
  exact zg (Ev.now _) (by simp [zN])
 ·have : 0 < a.length := List.length_pos_iff.2 h0
  (repeat (first | with_reducible refine ep ?_ | with_reducible refine en ?_))
  have h := ziE a ha la (s := n % 32) (by omega) a (List.replicate (n / 32) 0) [] 0 rfl (zk _) (Dg.zeros _) (by simp; omega)
  rw [ziD ha] at h
  simp only [Int.toNat_natCast]
  simpa using h
theorem zel {a : List Int} (ha : Dg a) (la : a.length < 1000000000) (n : Nat) (hn : n < 1000000000) : Ev (fun k => zaf.f k a n) (D (V a * 2 ^ n)) := by
 unfold zaf.f
 simp only [t32 (n := n) (by omega), m32]
 by_cases h0 : a = []
 ·subst h0
  (repeat (first | with_reducible refine ep ?_ | with_reducible refine en ?_))
  exact zg (Ev.now _) (by simp [zN])
 ·have : 0 < a.length := List.length_pos_iff.2 h0
  (repeat (first | with_reducible refine ep ?_ | with_reducible refine en ?_))
  have h := zig a ha la (s := n % 32) (by omega) a (List.replicate (n / 32) 0) [] 0 rfl (zk _) (Dg.zeros _) (by simp; omega)
  rw [ziD ha] at h
  simp only [Int.toNat_natCast]
  simpa using h
theorem pw' {s : Nat} (h : s ≤ 32) : 2 ^ (32 - s) * 2 ^ s = 4294967296 := by rw [Nat.mul_comm]; exact pw h
theorem zdw {l : List Int} (h : Dg l) (q : Nat) : V (l.drop q) = V l / 4294967296 ^ q := by
 by_cases hq : q ≤ l.length
 ·have e : V l = V (l.take q) + 4294967296 ^ q * V (l.drop q) := by
   conv => lhs; rw [← List.take_append_drop q l, zbH, List.length_take, Nat.min_eq_left hq]
  have hlt : V (l.take q) < 4294967296 ^ q := by
   have := zbt (h.take q); rwa [List.length_take, Nat.min_eq_left hq] at this
  rw [e, Nat.add_mul_div_left _ _ (Nat.pow_pos (by omega)), Nat.div_eq_of_lt hlt, Nat.zero_add]
 ·rw [List.drop_eq_nil_of_le (by omega), zO, Nat.div_eq_of_lt]
  exact Nat.lt_of_lt_of_le (zbt h) (Nat.pow_le_pow_right (by omega) (by omega))
theorem zeP {m : Nat} (h : m < 4294967296) : (m : Int) < 4294967296 := by omega
theorem zjI (Y s : Nat) (hs : s < 32) (hY : Y < 4294967296) : (shl .u64 (IntKind.u64.wrap (Y : Int)) (wrap64 (32 - (s : Int)))) % 4294967296 = ((2 ^ (32 - s) * (Y % 2 ^ s) : Nat) : Int) := by
 rw [zdW _ hY, zgk (by omega), zgc _ _ (by omega) hY]
 have h := (zdq (X := Y) (P := 2 ^ (32 - s)) (Q := 2 ^ s) (c := 0) (zk _) (zk _)).2
 rw [pw' (by omega), Nat.add_zero, Nat.add_zero] at h
 rw [← h]; omega
theorem zeL (X Y s : Nat) (hs : s < 32) (hX : X < 4294967296) : X / 2 ^ s + 2 ^ (32 - s) * (Y % 2 ^ s) < 4294967296 := by
 have h1 := zd6 (s := s) (by omega) hX
 have h2 : Y % 2 ^ s + 1 ≤ 2 ^ s := Nat.mod_lt _ (zk _)
 have h3 := Nat.mul_le_mul_left (2 ^ (32 - s)) h2
 rw [pw' (by omega), Nat.mul_add] at h3
 omega
theorem zjH (X Y s : Nat) (hs : s < 32) (hX : X < 4294967296) (hY : Y < 4294967296) : Go.bits .or .u32 ((X / 2 ^ s : Nat) : Int) ((shl .u64 (IntKind.u64.wrap (Y : Int)) (wrap64 (32 - (s : Int)))) % 4294967296) = ((X / 2 ^ s + 2 ^ (32 - s) * (Y % 2 ^ s) : Nat) : Int) := by
 have hl := zeL X Y s hs hX
 rw [zjI Y s hs hY, u32_or_nat _ _ (Nat.lt_of_le_of_lt (Nat.le_add_right _ _) hl) (Nat.lt_of_le_of_lt (Nat.le_add_left _ _) hl), Nat.or_comm, ← Nat.two_pow_add_eq_or_of_lt (zd6 (by omega) hX), Nat.add_comm]
theorem zlo (X Y s : Nat) (hs : s < 32) (hX : X < 4294967296) (hY : Y < 4294967296) : (Go.bits .or .u64 (shr .u64 (IntKind.u64.wrap (X : Int)) (s : Int)) (shl .u64 (IntKind.u64.wrap (Y : Int)) (wrap64 (32 - (s : Int))))) % 4294967296 = ((X / 2 ^ s + 2 ^ (32 - s) * (Y % 2 ^ s) : Nat) : Int) := by
 have hl := zd6 (s := s) (by omega) hX
 have hle : 2 ^ (32 - s) ≤ 2 ^ 32 := Nat.pow_le_pow_right (by omega) (by omega)
 have h2 : Y * 2 ^ (32 - s) ≤ 4294967295 * 2 ^ 32 := Nat.mul_le_mul (by omega) hle
 have hX2 : X / 2 ^ s ≤ X := Nat.div_le_self _ _
 rw [zdW _ hX, zdW _ hY, zgk (by omega), zgc _ _ (by omega) hY, zcR _ _ (by simp [IntKind.bits]; omega), u64_or_nat _ _ (by omega) (by omega), Nat.or_comm, Nat.mul_comm Y, ← Nat.two_pow_add_eq_or_of_lt hl, Nat.mul_comm _ Y]
 have h := (zdq (X := Y) (P := 2 ^ (32 - s)) (Q := 2 ^ s) (c := X / 2 ^ s) (zk _) hl).2
 rw [pw' (by omega)] at h
 rw [Nat.add_comm (X / 2 ^ s), ← h]; omega
def zaH (s : Nat) : List Int → List Int
 | [] => []
 | d :: l => ((d.toNat / 2 ^ s + 2 ^ (32 - s) * ((l.headD 0).toNat % 2 ^ s) : Nat) : Int) :: zaH s l
theorem zi4 {l : List Int} {s : Nat} (hs : s ≤ 32) : V l % 2 ^ s = (l.headD 0).toNat % 2 ^ s := by
 cases l with
 | nil => simp
 | cons d l =>
  have h := pw (s := s) hs
  simp only [zF, List.headD_cons]
  rw [← h, Nat.mul_assoc, Nat.add_mul_mod_self_left]
theorem zg4 {s : Nat} (hs : s < 32) : ∀ (l : List Int), Dg l → V (zaH s l) = V l / 2 ^ s ∧ Dg (zaH s l)
 | [], _ => by simp [zaH, Dg.nil]
 | d :: l, hg => by
  have hd := hg.head
  have ih := zg4 hs l hg.tail
  have hl := zeL d.toNat (l.headD 0).toNat s hs (by omega)
  simp only [zaH, zF, ih.1]
  refine ⟨?_, Dg.cons nn (zeP hl) ih.2⟩
  rw [← zi4 (l := l) (by omega), Int.toNat_natCast]
  have h := pw (s := s) (by omega)
  have h' := pw' (s := s) (by omega)
  have e1 : (d.toNat + 4294967296 * V l) / 2 ^ s = d.toNat / 2 ^ s + 2 ^ (32 - s) * V l := by
   rw [← h, Nat.mul_assoc, Nat.add_mul_div_left _ _ (zk _)]
  have e2 : 2 ^ (32 - s) * V l = 2 ^ (32 - s) * (V l % 2 ^ s) + 4294967296 * (V l / 2 ^ s) := by
   rw [← h', Nat.mul_assoc, ← Nat.mul_add, Nat.mod_add_div]
  rw [e1, e2, Nat.add_assoc]
theorem zfu {a : List Int} (ha : Dg a) (n : Nat) : V (zaH (n % 32) (a.drop (n / 32))) = V a / 2 ^ n := by
 rw [(zg4 (by omega) _ (ha.drop _)).1, zdw ha, Nat.div_div_eq_div_mul, ← zdo]
theorem zg5 (A : List Int) (hA : Dg A) (hl : A.length < 1000000000) {s : Nat} (hs : s < 32) : ∀ (a done pa : List Int), A = pa ++ a → done.length = pa.length → Dg done →
  Ev (fun k => za9.l0 k A s (done ++ List.replicate a.length 0) A A.length pa.length) (D (V (done ++ zaH s a)))
 | [], done, pa, he, hd, hg => by
  have hlen : A.length = pa.length := by rw [he]; simp
  refine zh ?_
  simp only [za9.l0]
  (repeat (first | with_reducible refine ep ?_ | with_reducible refine en ?_))
  simp only [List.length_nil, List.replicate_zero, zaH]
  exact Ev.bind (zdO (l := done ++ []) (by simpa using hg) (by simp; omega)) (Ev.now _)
 | d :: a, done, pa, he, hd, hg => by
  have hlen : A.length = pa.length + 1 + a.length := by rw [he]; simp; omega
  have hdd : 0 ≤ d ∧ d < 4294967296 := by rw [he] at hA; exact hA.right.head
  obtain ⟨X, rfl⟩ := Int.eq_ofNat_of_zero_le hdd.1
  have hX : X < 4294967296 := by omega
  have h1 : rd A (pa.length : Int) = (X : Int) := by rw [he]; exact zaY rfl
  have hg2 : Dg (a) := by rw [he] at hA; exact hA.right.tail
  have hy := hg2.headD
  have ih := zg5 A hA hl hs a (done ++ [((X / 2 ^ s + 2 ^ (32 - s) * ((a.headD 0).toNat % 2 ^ s) : Nat) : Int)]) (pa ++ [(X : Int)]) (by rw [he]; simp) (by simp [hd])
   (hg.app (Dg.cons nn (zeP (zeL X (a.headD 0).toNat s hs hX)) Dg.nil))
  rw [@List.length_append _ pa, List.length_singleton] at ih
  refine zh ?_
  have hset : (done ++ List.replicate ((X : Int) :: a).length 0).set ((pa.length : Int)).toNat ((X / 2 ^ s : Nat) : Int) = (done ++ [((X / 2 ^ s : Nat) : Int)]) ++ List.replicate a.length 0 := by
   rw [List.length_cons, List.replicate_succ, zcP (by omega)]
  simp only [za9.l0, h1, z3 (n := pa.length) (by omega), zcR (k := .u32) X s (by simp [IntKind.bits]; omega), hset, Option.bind_some]
  have w32 : wrap64 (32 - (s : Int)) = 32 - (s : Int) := by unfold wrap64; omega
  (repeat (first | with_reducible refine ep ?_ | with_reducible refine en ?_))
  by_cases hn : a = []
  ·subst hn
   simp only [List.length_nil, Nat.add_zero] at hlen
   (repeat (first | with_reducible refine ep ?_ | with_reducible refine en ?_))
   refine zg (by simpa [zaH] using ih) ?_
   simp [zaH]
  ·obtain ⟨y, a', rfl⟩ := List.exists_cons_of_ne_nil hn
   obtain ⟨Y, rfl⟩ := Int.eq_ofNat_of_zero_le hy.1
   simp only [List.headD_cons] at hy ih
   have hlen' := hlen
   simp only [List.length_cons] at hlen'
   have h2 : rd A ((pa.length + 1 : Nat) : Int) = (Y : Int) := by rw [he, show pa ++ (X : Int) :: (Y : Int) :: a' = (pa ++ [(X : Int)]) ++ (Y : Int) :: a' by simp]; exact zaY (by simp)
   have h3 : rd (done ++ [((X / 2 ^ s : Nat) : Int)] ++ List.replicate ((Y : Int) :: a').length 0) (pa.length : Int) = ((X / 2 ^ s : Nat) : Int) := by rw [List.append_assoc, List.singleton_append]; exact zaY (by omega)
   have hset2 : (done ++ [((X / 2 ^ s : Nat) : Int)] ++ List.replicate ((Y : Int) :: a').length 0).set ((pa.length : Int)).toNat ((X / 2 ^ s + 2 ^ (32 - s) * (Y % 2 ^ s) : Nat) : Int) = done ++ [((X / 2 ^ s + 2 ^ (32 - s) * (Y % 2 ^ s) : Nat) : Int)] ++ List.replicate ((Y : Int) :: a').length 0 := by
    rw [List.append_assoc, List.singleton_append, zcP (by omega)]
   simp only [h2, h3, zjH X Y s hs hX (by omega), hset2]
   (repeat (first | with_reducible refine ep ?_ | with_reducible refine en ?_))
   rw [Int.toNat_natCast] at ih
   refine zg ih ?_
   simp [zaH]
theorem zkM {a : List Int} (ha : Dg a) (la : a.length < 1000000000) (n : Nat) (hn : n < 100000000000) : Ev (fun k => za9.f k a n) (D (V a / 2 ^ n)) := by
 unfold za9.f
 simp only [t32 (n := n) (by omega), m32]
 by_cases h : n / 32 ≥ a.length
 ·(repeat (first | with_reducible refine ep ?_ | with_reducible refine en ?_))
  have : V a / 2 ^ n = 0 := by
   rw [zdo, ← Nat.div_div_eq_div_mul, ← zdw ha, List.drop_eq_nil_of_le h]; simp
  rw [this, zN]; exact Ev.now _
 ·(repeat (first | with_reducible refine ep ?_ | with_reducible refine en ?_))
  have h := zg5 (a.drop (n / 32)) (ha.drop _) (by simp; omega) (s := n % 32) (by omega) (a.drop (n / 32)) [] [] rfl rfl Dg.nil
  simp only [List.nil_append, zfu ha] at h
  simp only [Int.toNat_natCast]
  simpa using h
theorem zf1 {l : List Int} (h : Dg l) (hl : l.length < 1000000000) (i : Nat) (hi : i < 4611686018427387904) : zcq.f l i = some ((V l / 2 ^ i % 2 : Nat) : Int) := by
 unfold zcq.f
 simp only [t32 hi, m32]
 rw [if_neg (by omega)]
 by_cases hq : i / 32 ≥ l.length
 ·rw [if_pos (by omega)]
  have : V l / 2 ^ i = 0 := by
   rw [zdo, ← Nat.div_div_eq_div_mul, ← zdw h, List.drop_eq_nil_of_le hq]; simp
  rw [this]; rfl
 ·rw [if_neg (by omega), if_pos nn, if_pos (by omega), if_pos nn]
  rw [rdn]
  have hx := h.getD (i / 32)
  obtain ⟨X, hX⟩ := Int.eq_ofNat_of_zero_le hx.1
  have hX2 : X < 4294967296 := by omega
  rw [hX, zcR _ _ (by simp [IntKind.bits]; omega)]
  have hle : X / 2 ^ (i % 32) ≤ X := Nat.div_le_self _ _
  have e := u32_and_nat (X / 2 ^ (i % 32)) 1 (by omega) (by omega)
  rw [Nat.and_one_is_mod] at e
  rw [show (1 : Int) = ((1 : Nat) : Int) from rfl, e]
  congr 2
  rw [zdo i, ← Nat.div_div_eq_div_mul, ← zdw h]
  have hd : l.drop (i / 32) = (X : Int) :: l.drop (i / 32 + 1) := by
   rw [List.drop_eq_getElem_cons (by omega)]
   congr 1
   rw [← hX, List.getD_eq_getElem?_getD, List.getElem?_eq_getElem (by omega)]; rfl
  rw [hd, zF, Int.toNat_natCast, ← pw (s := i % 32) (by omega), Nat.mul_assoc, Nat.add_mul_div_left _ _ (zk _)]
  have e3 : 2 ^ (32 - i % 32) = 2 * 2 ^ (31 - i % 32) := by
   rw [show 32 - i % 32 = (31 - i % 32) + 1 by omega, Nat.pow_succ, Nat.mul_comm]
  rw [e3, Nat.mul_assoc, Nat.add_mul_mod_self_left]
theorem zaM {l : List Int} (h : Dg l) : bl (V l) ≤ 32 * l.length := by
 apply zP
 have := zbt h
 rwa [show (4294967296 : Nat) = 2 ^ 32 from rfl, ← Nat.pow_mul] at this
theorem zbs {n k : Nat} (h : n < 4294967296 ^ k) : (D n).length ≤ k := by
 rcases Nat.lt_or_ge k (D n).length with h1 | h1
 ·have h2 := zff (zo n) (by intro e; rw [e] at h1; simp at h1)
  rw [V_D] at h2
  have h3 : 4294967296 ^ k ≤ 4294967296 ^ ((D n).length - 1) := Nat.pow_le_pow_right (by omega) (by omega)
  omega
 ·exact h1
theorem zf3 {l : List Int} (h : Dg l) (hl : l.length < 1000000000) : ∀ (n i : Nat), 32 * l.length - i ≤ n → i < 100000000000 → ∃ b : Nat, Ev (fun k => z9.l0 k l i) (b : Int)
 | n, i, hn, hi => by
  have e32 : wrap64 (32 * (l.length : Int)) = ((32 * l.length : Nat) : Int) := by unfold wrap64; omega
  by_cases hlt : i < 32 * l.length
  ·have hb := zf1 h hl i (by omega)
   generalize V l / 2 ^ i % 2 = z at hb
   by_cases h0 : z = 0
   ·have e1 : wrap64 ((i : Int) + 32) = ((i + 32 : Nat) : Int) := by unfold wrap64; omega
    have e2 : wrap64 ((i : Int) + 1) = ((i + 1 : Nat) : Int) := by unfold wrap64; omega
    cases n with
    | zero => omega
    | succ n =>
     obtain ⟨b1, hb1⟩ := zf3 h hl n (i + 32) (by omega) (by omega)
     obtain ⟨b2, hb2⟩ := zf3 h hl n (i + 1) (by omega) (by omega)
     by_cases hz : rd l (((i / 32 : Nat) : Int)) = 0
     ·refine ⟨b1, zh ?_⟩
      simp only [z9.l0, e32, t32 (n := i) (by omega), e1, e2]
      subst h0
      refine ze (by omega) (zi hb ?_)
      exact ze (by simp) (ze nn (ze (by omega) (ze hz hb1)))
     ·refine ⟨b2, zh ?_⟩
      simp only [z9.l0, e32, t32 (n := i) (by omega), e1, e2]
      subst h0
      refine ze (by omega) (zi hb ?_)
      exact ze (by simp) (ze nn (ze (by omega) (zf hz hb2)))
   ·refine ⟨i, zh ?_⟩
    simp only [z9.l0, e32]
    refine ze (by omega) (zi hb ?_)
    exact zf (by simpa using h0) (zf (by omega) (Ev.now _))
  ·by_cases he : i = 32 * l.length
   ·refine ⟨0, zh ?_⟩
    simp only [z9.l0, e32]
    exact zf (by omega) (ze (by omega) (Ev.now _))
   ·refine ⟨i, zh ?_⟩
    simp only [z9.l0, e32]
    exact zf (by omega) (zf (by omega) (Ev.now _))
termination_by n => n
theorem zfZ (A : List Int) (hA : Dg A) (hl : A.length < 1000000000) (b : Bool) {s : Nat} (hs : s < 32) : ∀ (a done pa : List Int), A = pa ++ a → done.length + a.length < 1000000000 → Dg done →
  Ev (fun k => z6.l0 k A b done s pa.length) (D (V (done ++ zaH s a)), b)
 | [], done, pa, he, hd, hg => by
  have hlen : A.length = pa.length := by rw [he]; simp
  refine zh ?_
  simp only [z6.l0]
  (repeat (first | with_reducible refine ep ?_ | with_reducible refine en ?_))
  simp only [zaH, List.append_nil]
  exact Ev.bind (zcO hg (by simp at hd; omega)) (Ev.now _)
 | d :: a, done, pa, he, hd, hg => by
  have hlen : A.length = pa.length + 1 + a.length := by rw [he]; simp; omega
  have hdd : 0 ≤ d ∧ d < 4294967296 := by rw [he] at hA; exact hA.right.head
  obtain ⟨X, rfl⟩ := Int.eq_ofNat_of_zero_le hdd.1
  have hX : X < 4294967296 := by omega
  have h1 : rd A (pa.length : Int) = (X : Int) := by rw [he]; exact zaY rfl
  have hg2 : Dg (a) := by rw [he] at hA; exact hA.right.tail
  have hy := hg2.headD
  have ih := zfZ A hA hl b hs a (done ++ [((X / 2 ^ s + 2 ^ (32 - s) * ((a.headD 0).toNat % 2 ^ s) : Nat) : Int)]) (pa ++ [(X : Int)]) (by rw [he]; simp) (by simp at hd ⊢; omega)
   (hg.app (Dg.cons nn (zeP (zeL X (a.headD 0).toNat s hs hX)) Dg.nil))
  rw [@List.length_append _ pa, List.length_singleton] at ih
  have hXs : X / 2 ^ s ≤ X := Nat.div_le_self _ _
  have e0 : ((X / 2 ^ s : Nat) : Int) % 4294967296 = ((X / 2 ^ s : Nat) : Int) := by
   generalize X / 2 ^ s = z at *; omega
  refine zh ?_
  simp only [z6.l0, h1, z3 (n := pa.length) (by omega)]
  (repeat (first | with_reducible refine ep ?_ | with_reducible refine en ?_))
  by_cases hn : a = []
  ·subst hn
   simp only [List.length_nil, Nat.add_zero] at hlen
   (repeat (first | with_reducible refine ep ?_ | with_reducible refine en ?_))
   rw [zdW _ hX, zcR _ _ (by simp [IntKind.bits]; omega), e0]
   refine zg (by simpa [zaH] using ih) ?_
   simp [zaH]
  ·obtain ⟨y, a', rfl⟩ := List.exists_cons_of_ne_nil hn
   obtain ⟨Y, rfl⟩ := Int.eq_ofNat_of_zero_le hy.1
   simp only [List.headD_cons] at hy ih
   have hlen' := hlen
   have w32 : wrap64 (32 - (s : Int)) = 32 - (s : Int) := by unfold wrap64; omega
   have hd' := hd
   simp only [List.length_cons] at hd'
   simp only [List.length_cons] at hlen'
   have h2 : rd A ((pa.length + 1 : Nat) : Int) = (Y : Int) := by rw [he, show pa ++ (X : Int) :: (Y : Int) :: a' = (pa ++ [(X : Int)]) ++ (Y : Int) :: a' by simp]; exact zaY (by simp)
   simp only [h2, zlo X Y s hs hX (by omega)]
   (repeat (first | with_reducible refine ep ?_ | with_reducible refine en ?_))
   rw [Int.toNat_natCast] at ih
   refine zg ih ?_
   simp [zaH]
theorem zls {a : List Int} (ha : Nm a) (la : a.length < 100000000) (n : Nat) (hn : n < 1000000000) : ∃ b, Ev (fun k => z6.f k a n) (D (V a / 2 ^ n), b) := by
 unfold z6.f
 by_cases h : n ≥ bl (V a)
 ·refine ⟨decide ((a.length : Int) > 0), Ev.bind (zbS ha (by omega)) (ze (by omega) (zg (Ev.now _) ?_))⟩
  rw [Nat.div_eq_of_lt (Nat.lt_of_lt_of_le (zac _) (Nat.pow_le_pow_right (by omega) h)), zN]
 ·obtain ⟨b, hb⟩ := zf3 ha.dg (by omega) _ 0 (Nat.le_refl _) (by omega)
  refine ⟨decide ((n : Int) > (b : Int)), Ev.bind (zbS ha (by omega)) (zf (by omega) (Ev.bind hb ?_))⟩
  simp only [t32 (n := n) (by omega), m32]
  have hbl := zaM ha.dg
  have hq : n / 32 ≤ a.length := by omega
  have h1 := zfZ a ha.dg (by omega) (decide ((n : Int) > (b : Int))) (s := n % 32) (by omega) (a.drop (n / 32)) [] (a.take (n / 32)) (by simp) (by simp; omega) Dg.nil
  rw [List.length_take, Nat.min_eq_left hq, List.nil_append, zfu ha.dg] at h1
  exact h1
theorem zgz : ∀ (q : List Int) (j y : Nat), Dg q → j < q.length → V (q.set j (q.getD j 0 + (y : Int))) = V q + 4294967296 ^ j * y
 | [], j, y, _, h => by simp at h
 | d :: q, 0, y, hg, _ => by
  have := hg.head
  simp; omega
 | d :: q, j + 1, y, hg, h => by
  have ih := zgz q j y hg.tail (by simpa using h)
  simp only [List.set_cons_succ, zF, List.getD_cons_succ, ih, Nat.pow_succ]
  generalize 4294967296 ^ j = p
  rw [Nat.mul_add, Nat.mul_comm p 4294967296, Nat.mul_assoc, Nat.add_assoc]
theorem zji {q : List Int} (hg : Dg q) {i Qv : Nat} (hi : i / 32 < q.length) (hv : V q = Qv * 2 ^ (i + 1)) :
  V (q.set (i / 32) (Go.bits .or .u32 (rd q ((i / 32 : Nat) : Int)) (shl .u32 1 ((i % 32 : Nat) : Int)))) = V q + 2 ^ i ∧ Dg (q.set (i / 32) (Go.bits .or .u32 (rd q ((i / 32 : Nat) : Int)) (shl .u32 1 ((i % 32 : Nat) : Int)))) := by
 have hx := hg.getD (i / 32)
 obtain ⟨X, hX⟩ := Int.eq_ofNat_of_zero_le hx.1
 have hX2 : X < 4294967296 := by omega
 have hd : q.drop (i / 32) = (X : Int) :: q.drop (i / 32 + 1) := by
  rw [List.drop_eq_getElem_cons (by omega)]
  congr 1
  rw [← hX, List.getD_eq_getElem?_getD, List.getElem?_eq_getElem (by omega)]; rfl
 have h1 := zdw hg (i / 32)
 have hp : 0 < 4294967296 ^ (i / 32) := Nat.pow_pos (by omega)
 have e1 : 2 ^ (i + 1) = 4294967296 ^ (i / 32) * 2 ^ (i % 32 + 1) := by rw [Nat.pow_succ, zdo i, Nat.mul_assoc, ← Nat.pow_succ]
 rw [hv, e1, Nat.mul_left_comm, Nat.mul_div_cancel_left _ hp, hd, zF, Int.toNat_natCast] at h1
 have e2 : X % 2 ^ (i % 32 + 1) = 0 := by
  have h3 := congrArg (· % 2 ^ (i % 32 + 1)) h1
  simp only [Nat.mul_mod_left] at h3
  rw [← pw (s := i % 32 + 1) (by omega), Nat.mul_assoc, Nat.add_mul_mod_self_left] at h3
  exact h3
 obtain ⟨z, hz⟩ := Nat.dvd_of_mod_eq_zero e2
 have hlt : 2 ^ (i % 32) < 2 ^ (i % 32 + 1) := Nat.pow_lt_pow_right (by omega) (by omega)
 have hor : X ||| 2 ^ (i % 32) = X + 2 ^ (i % 32) := by rw [hz, ← Nat.two_pow_add_eq_or_of_lt hlt]
 have hple : 2 ^ (i % 32) ≤ 2 ^ 31 := Nat.pow_le_pow_right (by omega) (by omega)
 have hsum : X + 2 ^ (i % 32) < 4294967296 := by
  have h4 := pw (s := i % 32 + 1) (by omega)
  have h5 : z < 2 ^ (32 - (i % 32 + 1)) := by
   apply Nat.lt_of_mul_lt_mul_left (a := 2 ^ (i % 32 + 1)); rw [h4, ← hz]; exact hX2
  have h6 := Nat.mul_le_mul_left (2 ^ (i % 32 + 1)) (Nat.succ_le_of_lt h5)
  rw [h4, Nat.mul_succ, ← hz] at h6
  omega
 have hsh : shl .u32 1 ((i % 32 : Nat) : Int) = ((2 ^ (i % 32) : Nat) : Int) := by
  rw [show (1 : Int) = ((1 : Nat) : Int) from rfl, zij 1 (i % 32) (by omega), Nat.one_mul, Nat.mod_eq_of_lt (by omega)]
 have zci : Go.bits .or .u32 (rd q ((i / 32 : Nat) : Int)) (shl .u32 1 ((i % 32 : Nat) : Int)) = q.getD (i / 32) 0 + ((2 ^ (i % 32) : Nat) : Int) := by
  rw [rdn, hX, hsh, u32_or_nat _ _ hX2 (by omega), hor]; simp
 rw [zci]
 refine ⟨?_, hg.set _ (by omega) ?_⟩
 ·rw [zgz q _ _ hg hi, ← zdo]
 ·rw [hX]
  have := zeP hsum
  rwa [Int.natCast_add] at this
theorem zgy {l : List Int} (h : Nm l) (h0 : l ≠ []) : V l ≠ 0 := fun e => h0 ((zcZ h).1 e)
theorem zd1 {m n : Nat} : (z5 m n ≥ 0) ↔ n ≤ m := by
 unfold z5; split
 ·constructor <;> intro h <;> omega
 ·split <;> constructor <;> intro h <;> omega
theorem zjG (n i : Nat) : n / 2 ^ i = 2 * (n / 2 ^ (i + 1)) + n / 2 ^ i % 2 := by
 rw [Nat.pow_succ, ← Nat.div_div_eq_div_mul]; omega
theorem zga {a b : List Int} (ha : Nm a) (hb : Nm b) (la : a.length < 100000000) (lb : b.length < 100000000) : ∀ (i R Qv : Nat) (q : List Int), Dg q → q.length = a.length → i ≤ 32 * a.length → R < V b → V q = Qv * 2 ^ i → V a / 2 ^ i = Qv * V b + R →
  Ev (fun k => zae.l0 k a b q (D R) ((i : Int) - 1)) (D (V a / V b), D (V a % V b))
 | 0, R, Qv, q, hg, hq, hi, hR, hv, hs => by
  refine zh ?_
  simp only [zae.l0]
  refine zf (by omega) (Ev.bind (zcO hg (by omega)) (zg (Ev.now _) ?_))
  simp only [Nat.pow_zero, Nat.mul_one, Nat.div_one] at hv hs
  have h1 : V a / V b = Qv := by
   rw [hs, Nat.mul_comm, Nat.mul_add_div (by omega), Nat.div_eq_of_lt hR, Nat.add_zero]
  have h2 : V a % V b = R := by
   rw [hs, Nat.mul_comm, Nat.mul_add_mod, Nat.mod_eq_of_lt hR]
  rw [h1, h2, hv]
 | i + 1, R, Qv, q, hg, hq, hi, hR, hv, hs => by
  have e0 : ((i + 1 : Nat) : Int) - 1 = (i : Int) := by omega
  have e1 : wrap64 ((i : Int) - 1) = (i : Int) - 1 := zds (by omega)
  have hbv := zbt hb.dg
  have hRl : (D R).length ≤ b.length := zbs (Nat.lt_trans hR hbv)
  have hpow : 4294967296 ^ (b.length + 1) = 4294967296 ^ b.length * 4294967296 := Nat.pow_succ ..
  have hdb := zjG (V a) i
  rw [hs] at hdb
  have hbit : V a / 2 ^ i % 2 = 0 ∨ V a / 2 ^ i % 2 = 1 := by omega
  have hup := zel (zcY R) (by omega) 1 (by omega)
  rw [V_D, Nat.pow_one] at hup
  have hr2 : (D (R * 2)).length ≤ b.length + 1 := zbs (by rw [hpow]; generalize 4294967296 ^ b.length = p at *; omega)
  have rest : ∀ r : Nat, r = R * 2 + V a / 2 ^ i % 2 → Ev (fun k => zae.j2 k a b q (D r) (i : Int)) (D (V a / V b), D (V a % V b)) := by
   intro r hr
   have hrl : (D r).length ≤ b.length + 1 := zbs (by rw [hpow]; generalize 4294967296 ^ b.length = p at *; omega)
   have hs2 : V a / 2 ^ i = 2 * Qv * V b + r := by rw [hdb, hr, Nat.mul_add, Nat.mul_assoc]; omega
   refine zh ?_
   simp only [zae.j2, t32 (n := i) (by omega), m32, e1]
   refine Ev.bind (zhX (zo r) hb (by omega)) ?_
   rw [V_D]
   by_cases hc : V b ≤ r
   ·refine ze (zd1.2 hc) ?_
    have hsub := zf4 (zo r) hb (by omega) (by rw [V_D]; exact hc)
    rw [V_D] at hsub
    refine Ev.bind hsub (ze nn (ze (by omega) (ze nn (ze nn (ze (by omega) ?_)))))
    have hset := zji hg (i := i) (Qv := Qv) (by omega) hv
    rw [Int.toNat_natCast]
    refine zga ha hb la lb i (r - V b) (2 * Qv + 1) _ hset.2 (by simp [hq]) (by omega) (by omega) ?_ ?_
    ·rw [hset.1, hv, Nat.pow_succ, Nat.add_mul, Nat.one_mul]
     congr 1
     rw [Nat.mul_comm (2 ^ i), Nat.mul_comm 2 Qv, Nat.mul_assoc]
    ·rw [hs2, Nat.add_mul, Nat.one_mul]; omega
   ·refine zf (fun h => hc (zd1.1 h)) ?_
    refine zga ha hb la lb i r (2 * Qv) _ hg hq (by omega) (by omega) ?_ hs2
    rw [hv, Nat.pow_succ, Nat.mul_comm (2 ^ i), Nat.mul_comm 2 Qv, Nat.mul_assoc]
  rw [e0]
  refine zh ?_
  simp only [zae.l0]
  refine ze (by omega) (Ev.bind hup (zi (zf1 ha.dg (by omega) i (by omega)) ?_))
  rcases hbit with h | h
  ·rw [h]
   exact zf (by omega) (rest _ (by rw [h]; omega))
  ·rw [h]
   refine ze rfl ?_
   have hadd := zf0 (a := D (R * 2)) (b := [1]) (zcY _) (Dg.cons (by omega) (by omega) Dg.nil) (by omega) (by simp)
   rw [V_D] at hadd
   exact Ev.bind hadd (rest _ (by rw [h]; simp))
theorem zlx {a b : List Int} (ha : Nm a) (hb : Nm b) (la : a.length < 10000000) (lb : b.length < 10000000) (h0 : b ≠ []) : Ev (fun k => zae.f k a b) (D (V a / V b), D (V a % V b)) := by
 unfold zae.f
 by_cases h1 : b.length = 1
 ·obtain ⟨d, rfl⟩ := List.length_eq_one_iff.1 h1
  have hd := hb.dg.head
  have hdne : d ≠ 0 := by
   have h2 := zgy hb (by simp)
   simp at h2; omega
  (repeat (first | with_reducible refine ep ?_ | with_reducible refine en ?_))
  have h3 := zlB ha.dg (by omega) (d := d) (by omega)
  have h4 : rd [d] 0 = d := by simp [rd]
  rw [h4]
  refine Ev.bind h3 (zg (Ev.now _) ?_)
  simp
 ·have hla := zaM ha.dg
  have hlb := zaM hb.dg
  have hb0 := zgy hb h0
  have hbp := zbW hb0
  refine zf (by omega) (ze nn (ze (by simp; omega) (Ev.bind (zbS ha (by omega)) (Ev.bind (zbS hb (by omega)) ?_))))
  generalize hL : (bl (V a) + 1 - bl (V b)) = left
  have e1 : mx 0 (wrap64 (wrap64 (((bl (V a) : Nat) : Int) - ((bl (V b) : Nat) : Int)) + 1)) = (left : Int) := by
   unfold mx wrap64; split <;> omega
  have e2 : wrap64 ((left : Int) - 1) = (left : Int) - 1 := by unfold wrap64; omega
  simp only [e1, e2, Int.toNat_natCast]
  obtain ⟨x, hx⟩ := zls ha (by omega) left (by omega)
  refine Ev.bind hx ?_
  have hq : V a / 2 ^ left < V b := by
   have h2 := zcp hb0
   refine Nat.lt_of_lt_of_le ?_ h2
   rw [Nat.div_lt_iff_lt_mul (zk _), ← Nat.pow_add]
   exact Nat.lt_of_lt_of_le (zac _) (Nat.pow_le_pow_right (by omega) (by omega))
  exact zga ha hb (by omega) (by omega) left (V a / 2 ^ left) 0 (List.replicate a.length 0) (Dg.zeros _) (by simp) (by omega) hq (by rw [zez]; omega) (by omega)
theorem zgf (a b : Nat) : Int.tmod (a : Int) (b : Int) = ((a % b : Nat) : Int) := rfl
theorem w3 {i m : Nat} (h1 : i < 100000000) (h2 : m < 100000000) : wrap64 (wrap64 ((i : Int) + ((m + 2 : Nat) : Int)) + 1) = ((i + (m + 3) : Nat) : Int) := by unfold wrap64; omega
theorem zgX {m n : Nat} : (z5 m n < 0) ↔ m < n := by
 have := zd1 (m := m) (n := n)
 constructor <;> intro h <;> omega
theorem zkI (a b : Nat) : mx (a : Int) (b : Int) = ((max a b : Nat) : Int) := by unfold mx; split <;> omega
theorem zcI {l : List Int} (h : Nm l) (hb : l.length ≤ 4096) : Ev (fun k => zaC.f k l) ((bl (V l) : Nat) : Int) := by
 unfold zaC.f
 refine zi (zcJ h.dg (by omega)) ?_
 rw [zaT.2 ⟨hb, h⟩]
 (repeat (first | with_reducible refine ep ?_ | with_reducible refine en ?_))
 by_cases c : l.length = 0
 ·have : l = [] := List.eq_nil_of_length_eq_zero c
  subst this
  (repeat (first | with_reducible refine ep ?_ | with_reducible refine en ?_))
  exact zg (Ev.now _) rfl
 ·have e : wrap64 ((l.length : Int) - 1) = ((l.length - 1 : Nat) : Int) := by unfold wrap64; omega
  rw [e]
  clear e
  have hd := h.dg.getD (l.length - 1)
  have hne : l ≠ [] := fun e => c (by rw [e]; rfl)
  rw [rdn]
  (repeat (first | with_reducible refine ep ?_ | with_reducible refine en ?_))
  refine Ev.bind (zkr hd) (zg (Ev.now _) ?_)
  rw [zgN h hne]
  generalize l.getD (l.length - 1) 0 = x at hd
  have hbn : bl x.toNat ≤ 32 := zP (by omega)
  unfold wrap64
  omega
def zaA (n b : Nat) : Prop := ∃ m, n = 2 ^ b * (2 * m + 1)
theorem zaA.ne {n b : Nat} (h : zaA n b) : n ≠ 0 := by
 obtain ⟨m, h⟩ := h
 have := Nat.mul_pos (zk b) (show 0 < 2 * m + 1 by omega)
 omega
theorem zaA.le {n b : Nat} (h : zaA n b) : 2 ^ b ≤ n := by
 obtain ⟨m, h⟩ := h
 rw [h]; exact Nat.le_mul_of_pos_right _ (by omega)
theorem zaA.mod {n b k : Nat} (h : zaA n b) : n % 2 ^ k = 0 ↔ k ≤ b := by
 obtain ⟨m, h⟩ := h
 constructor
 ·intro hk
  rcases Nat.lt_or_ge b k with h1 | h1
  ·exfalso
   obtain ⟨d, rfl⟩ := Nat.exists_eq_add_of_lt h1
   have hd : 2 ^ (b + d + 1) ∣ 2 ^ b * (2 * m + 1) := by rw [← h]; exact Nat.dvd_of_mod_eq_zero hk
   rw [Nat.add_assoc, Nat.pow_add] at hd
   have h2 := Nat.dvd_of_mul_dvd_mul_left (zk b) hd
   rw [Nat.pow_succ] at h2
   have h3 : 2 ∣ 2 * m + 1 := Nat.dvd_trans (Nat.dvd_mul_left 2 _) h2
   omega
  ·exact h1
 ·intro hk
  obtain ⟨d, rfl⟩ := Nat.exists_eq_add_of_le hk
  rw [h, Nat.pow_add, Nat.mul_assoc]
  exact Nat.mul_mod_right _ _
theorem zaA.unique {n b c : Nat} (h : zaA n b) (k : zaA n c) : b = c := by
 have h1 := (h.mod (k := b)).2 (Nat.le_refl _)
 have h2 := (k.mod (k := c)).2 (Nat.le_refl _)
 have h3 := k.mod.1 h1
 have h4 := h.mod.1 h2
 omega
theorem zkn {n b : Nat} (h : n % 2 ^ b = 0) (k : n / 2 ^ b % 2 = 1) : zaA n b :=
 ⟨n / 2 ^ b / 2, by
  have h1 := Nat.div_add_mod n (2 ^ b)
  rw [h, Nat.add_zero] at h1
  have h2 : 2 * (n / 2 ^ b / 2) + 1 = n / 2 ^ b := by omega
  rw [h2, h1]⟩
theorem zhg {n b k : Nat} (h : zaA n b) : zaA (n * 2 ^ k) (b + k) := by
 obtain ⟨m, h⟩ := h
 exact ⟨m, by rw [h, Nat.pow_add, Nat.mul_assoc, Nat.mul_comm (2 * m + 1), ← Nat.mul_assoc]⟩
theorem zko {x : Nat} (h : x ≠ 0) (hx : x < 4294967296) : zaA x (Lib.ctz 32 x) ∧ Lib.ctz 32 x < 32 := by
 obtain ⟨m, h1, h2⟩ := Lib.ctzFrom_spec 32 x (by omega) hx
 unfold Lib.ctz
 rw [if_neg h]
 exact ⟨⟨m, h1⟩, h2⟩
theorem zkm {x r b : Nat} (h : zaA x b) (hb : b < 32) : zaA (x + 4294967296 * r) b := by
 obtain ⟨m, h⟩ := h
 obtain ⟨d, hd⟩ : ∃ d, 32 = b + (d + 1) := ⟨31 - b, by omega⟩
 have e : 4294967296 = 2 ^ b * (2 ^ d * 2) := by
  rw [← Nat.pow_succ, ← Nat.pow_add, Nat.succ_eq_add_one, ← hd]
 have e2 : 2 ^ b * (2 ^ d * 2) * r = 2 ^ b * (2 * (2 ^ d * r)) := by
  rw [Nat.mul_assoc, Nat.mul_comm (2 ^ d) 2, Nat.mul_assoc]
 refine ⟨m + 2 ^ d * r, ?_⟩
 rw [h, e, e2, ← Nat.mul_add]
 congr 1
 omega
def lw (n : Nat) : Nat := if n = 0 then 0 else Lib.ctzFrom n n
theorem zcj {n : Nat} (h : n ≠ 0) : zaA n (lw n) := by
 obtain ⟨m, h1, _⟩ := Lib.ctzFrom_spec n n (by omega) Nat.lt_two_pow_self
 unfold lw
 rw [if_neg h]
 exact ⟨m, h1⟩
theorem zee {n b : Nat} (h : zaA n b) : lw n = b := (zcj h.ne).unique h
theorem zme {x : Int} (h : 0 ≤ x ∧ x < 4294967296) : za2.f x = some ((Lib.ctz 32 x.toNat : Nat) : Int) := by
 unfold za2.f
 rw [if_pos h]
theorem zmk {i b : Nat} (hi : i < 1000000) (hb : b < 32) : wrap64 (wrap64 (32 * (i : Int)) + (b : Int)) = ((b + 32 * i : Nat) : Int) := by unfold wrap64; omega
theorem zhz (A : List Int) (hA : Dg A) (hl : A.length < 1000000) : ∀ (a pa : List Int), A = pa ++ a → V pa = 0 → Ev (fun k => zaD.l0 k A A.length pa.length) ((lw (V A) : Nat) : Int)
 | [], pa, he, hv => by
  have hlen : A.length = pa.length := by rw [he]; simp
  refine zh ?_
  simp only [zaD.l0]
  (repeat (first | with_reducible refine ep ?_ | with_reducible refine en ?_))
  refine zg (Ev.now _) ?_
  have : V A = 0 := by rw [he, List.append_nil, hv]
  rw [this]; rfl
 | d :: a, pa, he, hv => by
  have hlen : A.length = pa.length + 1 + a.length := by rw [he]; simp; omega
  have hdd : 0 ≤ d ∧ d < 4294967296 := by rw [he] at hA; exact hA.right.head
  have h1 : rd A (pa.length : Int) = d := by rw [he]; exact zaY rfl
  refine zh ?_
  simp only [zaD.l0, h1, z3 (n := pa.length) (by omega)]
  (repeat (first | with_reducible refine ep ?_ | with_reducible refine en ?_))
  by_cases h0 : d = 0
  ·refine zf (fun h => h h0) ?_
   have := zhz A hA hl a (pa ++ [0]) (by rw [he, h0]; simp) (by rw [zfi, hv])
   rwa [@List.length_append _ pa, List.length_singleton] at this
  ·refine ze h0 ?_
   refine zi (zme hdd) ?_
   (repeat (first | with_reducible refine ep ?_ | with_reducible refine en ?_))
   refine zg (Ev.now _) ?_
   have hz := zko (x := d.toNat) (by omega) (by omega)
   have e : V A = (d.toNat + 4294967296 * V a) * 2 ^ (32 * pa.length) := by
    rw [he, zbH, hv, zF, Nat.zero_add, Nat.mul_comm, Nat.pow_mul]
   rw [e, zee (zhg (zkm hz.1 hz.2)), zmk (by omega) hz.2]
theorem zhu {a : List Int} (ha : Nm a) (la : a.length ≤ 4096) : Ev (fun k => zaD.f k a) ((lw (V a) : Nat) : Int) := by
 unfold zaD.f
 refine zi (zcJ ha.dg (by omega)) ?_
 rw [zaT.2 ⟨la, ha⟩]
 (repeat (first | with_reducible refine ep ?_ | with_reducible refine en ?_))
 exact zhz a ha.dg (by omega) a [] rfl rfl
theorem zgx {l : List Int} (h : Dg l) (q : Nat) : V l / 4294967296 ^ q % 4294967296 = (l.getD q 0).toNat := by
 have h1 := zdx (l.drop q)
 rw [zd7, zdw h] at h1
 have h2 := h.getD q
 rw [h1, Nat.add_mul_mod_self_left, Nat.mod_eq_of_lt (by omega)]
theorem zkG {n i : Nat} (h : n % 2 ^ i = 0) (k : n / 2 ^ i % 2 = 0) : n % 2 ^ (i + 1) = 0 := by
 rw [Nat.pow_succ, Nat.mod_mul, h, k, Nat.mul_zero]
theorem zkF {n q : Nat} (h : n % 2 ^ (32 * q) = 0) (k : n / 4294967296 ^ q % 4294967296 = 0) : n % 2 ^ (32 * q + 32) = 0 := by
 have e : 2 ^ (32 * q + 32) = 2 ^ (32 * q) * 4294967296 := by rw [Nat.pow_add]
 have e2 : 4294967296 ^ q = 2 ^ (32 * q) := by rw [Nat.pow_mul]
 rw [e, Nat.mod_mul, h, ← e2, k, Nat.mul_zero]
theorem zlD {l : List Int} (h : Dg l) {i : Nat} (hi : i = 32 * l.length) (hm : V l % 2 ^ i = 0) : V l = 0 := by
 have hv := zbt h
 have e2 : 4294967296 ^ l.length = 2 ^ (32 * l.length) := by rw [Nat.pow_mul]
 rw [e2, ← hi] at hv
 rwa [Nat.mod_eq_of_lt hv] at hm
theorem zjJ {i m : Nat} (h : i < 32 * m) : ((i / 32 : Nat) : Int) < (m : Int) := by omega
theorem zip {i : Nat} (h : i < 100000000000) : wrap64 ((i : Int) + 1) = ((i + 1 : Nat) : Int) ∧ wrap64 ((i : Int) + 32) = ((i + 32 : Nat) : Int) := by unfold wrap64; omega
theorem zlE {l : List Int} (h : Dg l) (hl : l.length < 1000000000) (n : Nat) : ∀ (i : Nat), 32 * l.length - i ≤ n → i ≤ 32 * l.length → V l % 2 ^ i = 0 → (i % 32 = 0 ∨ l.getD (i / 32) 0 ≠ 0) → Ev (fun k => z9.l0 k l i) ((lw (V l) : Nat) : Int) := by
 induction n using Nat.strongRecOn with
 | _ n ih =>
  intro i hn hi hm hd
  have e32 : wrap64 (32 * (l.length : Int)) = ((32 * l.length : Nat) : Int) := by unfold wrap64; omega
  refine zh ?_
  simp only [z9.l0, e32]
  by_cases hlt : i < 32 * l.length
  ·have hb := zf1 h hl i (by clear hm hd; omega)
   refine ze (by clear hm hd; omega) ?_
   refine zi hb ?_
   have hi9 : i < 100000000000 := by clear hm hd; omega
   have hn1 : 32 * l.length - (i + 1) < n := by clear hm hd; omega
   have hn32 : 32 * l.length - (i + 32) < n := by clear hm hd; omega
   have hi1 : i + 1 ≤ 32 * l.length := hlt
   have hi32 : i % 32 = 0 → i + 32 ≤ 32 * l.length := by clear hm hd; omega
   have hne : i ≠ 32 * l.length := by clear hm hd; omega
   have et : wrap64 (Int.tdiv (i : Int) 32) = ((i / 32 : Nat) : Int) := t32 (by clear hm hd; omega)
   have hdv := zjJ hlt
   simp only [et, rdn]
   rw [(zip hi9).1, (zip hi9).2]
   clear et e32
   rcases Nat.mod_two_eq_zero_or_one (V l / 2 ^ i) with hz | hz
   ·rw [hz]
    refine ze rfl (ze nn (ze hdv ?_))
    by_cases h0 : l.getD (i / 32) 0 = 0
    ·have hi0 : i % 32 = 0 := hd.resolve_right (fun h => h h0)
     have hi33 := hi32 hi0
     obtain ⟨q, hq0⟩ : ∃ q, i = 32 * q := ⟨i / 32, by clear hm hd hz; omega⟩
     subst hq0
     have hq : 32 * q / 32 = q := by clear hm hd hz; omega
     rw [hq] at h0
     rw [hq]
     refine ze h0 ?_
     refine ih _ hn32 (32 * q + 32) (Nat.le_refl _) hi33 (zkF hm ?_) (.inl ?_)
     ·rw [zgx h, h0]; rfl
     ·clear hm hd hz; omega
    ·refine zf h0 ?_
     refine ih _ hn1 (i + 1) (Nat.le_refl _) hi1 (zkG hm hz) ?_
     clear hm hd hz
     rcases Nat.eq_zero_or_pos ((i + 1) % 32) with h1 | h1
     ·exact .inl h1
     ·have : (i + 1) / 32 = i / 32 := by omega
      rw [this]; exact .inr h0
   ·rw [hz]
    refine zf (by decide) ?_
    refine zf (fun e => hne (Int.ofNat.inj e)) ?_
    refine zg (Ev.now _) ?_
    rw [zee (zkn hm hz)]
  ·have hi2 : i = 32 * l.length := by clear hm hd; omega
   refine zf (by clear hm hd; omega) ?_
   refine ze (by rw [hi2]) ?_
   refine zg (Ev.now _) ?_
   rw [zlD h hi2 hm]; rfl
theorem zhY {l : List Int} (h : Dg l) (hl : l.length < 1000000000) : Ev (fun k => z9.f k l) ((lw (V l) : Nat) : Int) := by
 unfold z9.f
 exact zlE h hl _ 0 (Nat.le_refl _) (by omega) (by rw [Nat.pow_zero, Nat.mod_one]) (.inl rfl)
theorem zhm {n k : Nat} (h : n ≠ 0) : k > lw n ↔ n % 2 ^ k ≠ 0 := by
 have := (zcj h).mod (k := k)
 constructor
 ·intro h1 h2; have := this.1 h2; omega
 ·intro h1; rcases Nat.lt_or_ge (lw n) k with h2 | h2
  ·exact h2
  ·exact absurd (this.2 h2) h1
theorem zf2 {a : List Int} (ha : Nm a) (la : a.length < 100000000) (n : Nat) (hn : n < 1000000000) : Ev (fun k => z6.f k a n) (D (V a / 2 ^ n), decide (V a % 2 ^ n ≠ 0)) := by
 unfold z6.f
 have hlt := zac (V a)
 by_cases h : n ≥ bl (V a)
 ·have hp : V a < 2 ^ n := Nat.lt_of_lt_of_le hlt (Nat.pow_le_pow_right (by omega) h)
  refine Ev.bind (zbS ha (by omega)) ?_
  (repeat (first | with_reducible refine ep ?_ | with_reducible refine en ?_))
  refine zg (Ev.now _) ?_
  rw [Nat.div_eq_of_lt hp, zN, Nat.mod_eq_of_lt hp]
  congr 1
  refine decide_eq_decide.2 ?_
  have := zcZ ha
  have hl : a.length = 0 ↔ a = [] := List.length_eq_zero_iff
  constructor
  ·intro h1 h2; have := hl.2 (this.1 h2); omega
  ·intro h1
   rcases Nat.eq_zero_or_pos a.length with h3 | h3
   ·exact absurd (this.2 (hl.1 h3)) h1
   ·omega
 ·have h0 : V a ≠ 0 := by
   intro h0; rw [h0, zbv] at h; omega
  refine Ev.bind (zbS ha (by omega)) ?_
  (repeat (first | with_reducible refine ep ?_ | with_reducible refine en ?_))
  refine Ev.bind (zhY ha.dg (by omega)) ?_
  (repeat (first | with_reducible refine ep ?_ | with_reducible refine en ?_))
  have hd : decide ((n : Int) > ((lw (V a) : Nat) : Int)) = decide (V a % 2 ^ n ≠ 0) := decide_eq_decide.2 (by rw [← zhm h0]; omega)
  rw [hd]
  simp only [t32 (n := n) (by omega), m32]
  have hbl := zaM ha.dg
  have hq : n / 32 ≤ a.length := by omega
  have h1 := zfZ a ha.dg (by omega) (decide (V a % 2 ^ n ≠ 0)) (s := n % 32) (by omega) (a.drop (n / 32)) [] (a.take (n / 32)) (by simp) (by simp; omega) Dg.nil
  rw [List.length_take, Nat.min_eq_left hq, List.nil_append, zfu ha.dg] at h1
  exact h1
def zcQ (v : Nat) (n : Int) : List Int × Bool × Int :=
 if v = 0 then ([], false, 0) else if n < -131072 then ([], true, 0) else if n < 0 then (D (v / 2 ^ (-n).toNat), decide (v % 2 ^ (-n).toNat ≠ 0), 0) else if n > 131072 - (bl v : Int) then ([], false, 3) else (D (v * 2 ^ n.toNat), false, 0)
theorem zdn {a : List Int} (ha : Nm a) (la : a.length ≤ 4096) (n : Int) : Ev (fun k => zaw.f k a n) (zcQ (V a) n) := by
 unfold zaw.f zcQ
 refine zi (zcJ ha.dg (by omega)) ?_
 rw [zaT.2 ⟨la, ha⟩]
 (repeat (first | with_reducible refine ep ?_ | with_reducible refine en ?_))
 by_cases c : a = []
 ·subst c
  (repeat (first | with_reducible refine ep ?_ | with_reducible refine en ?_))
  exact zg (Ev.now _) (by simp)
 have h0 : V a ≠ 0 := fun h => c ((zcZ ha).1 h)
 have hl : a.length ≠ 0 := fun h => c (List.eq_nil_of_length_eq_zero h)
 have hbl := zaM ha.dg
 rw [if_neg h0]
 (repeat (first | with_reducible refine ep ?_ | with_reducible refine en ?_))
 by_cases h1 : n < -131072
 ·rw [if_pos h1]; exact ze h1 (Ev.now _)
 rw [if_neg h1]
 refine zf h1 ?_
 by_cases h2 : n < 0
 ·rw [if_pos h2]
  have e : wrap64 (-n) = (((-n).toNat : Nat) : Int) := by unfold wrap64; omega
  rw [e]
  clear e
  have hm : (-n).toNat ≤ 131072 := by omega
  generalize (-n).toNat = m at *
  refine ze h2 ?_
  refine Ev.bind (zkM ha.dg (by omega) m (by omega)) ?_
  (repeat (first | with_reducible refine ep ?_ | with_reducible refine en ?_))
  refine Ev.bind (zhu ha la) ?_
  (repeat (first | with_reducible refine ep ?_ | with_reducible refine en ?_))
  refine zg (Ev.now _) ?_
  congr 2
  exact decide_eq_decide.2 (by rw [← zhm h0]; omega)
 ·rw [if_neg h2]
  have e : wrap64 (131072 - ((bl (V a) : Nat) : Int)) = 131072 - ((bl (V a) : Nat) : Int) := by unfold wrap64; omega
  refine zf h2 ?_
  refine Ev.bind (zcI ha la) ?_
  (repeat (first | with_reducible refine ep ?_ | with_reducible refine en ?_))
  rw [e]
  clear e
  by_cases h3 : n > 131072 - ((bl (V a) : Nat) : Int)
  ·rw [if_pos h3]; exact ze h3 (Ev.now _)
  ·rw [if_neg h3]
   obtain ⟨m, rfl⟩ := Int.eq_ofNat_of_zero_le (show 0 ≤ n by omega)
   refine zf h3 ?_
   refine Ev.bind (zkP ha.dg (by omega) m (by omega)) ?_
   (repeat (first | with_reducible refine ep ?_ | with_reducible refine en ?_))
   refine zg (Ev.now _) ?_
   rw [Int.toNat_natCast]
theorem zaj {x k : Nat} (h : bl x ≤ 32 * k) : (D x).length ≤ k := by
 refine zbs ?_
 have e : 4294967296 ^ k = 2 ^ (32 * k) := by rw [Nat.pow_mul]
 rw [e]
 exact Nat.lt_of_lt_of_le (zac x) (Nat.pow_le_pow_right (by omega) h)
theorem zbX (v m : Nat) : bl (v * 2 ^ m) ≤ bl v + m := by
 refine zP ?_
 rw [Nat.pow_add]
 exact Nat.mul_lt_mul_of_pos_right (zac v) (zk m)
theorem zbJ {v : Nat} (h : v ≠ 0) (m : Nat) : bl (v * 2 ^ m) = bl v + m := by
 rw [zdB (n := v * 2 ^ m) (k := m) (Nat.le_mul_of_pos_left _ (by omega)), Nat.mul_div_cancel _ (zk m), Nat.add_comm]
theorem zcc (v m : Nat) : bl (v / 2 ^ m) = bl v - m := by
 rcases Nat.lt_or_ge v (2 ^ m) with h | h
 ·rw [Nat.div_eq_of_lt h, zbv]
  have := zP h
  omega
 ·rw [zdB h]; omega
theorem zdT {v m : Nat} (h : bl v + m ≤ 131072) : zcQ v (m : Int) = (D (v * 2 ^ m), false, 0) := by
 unfold zcQ
 by_cases hv : v = 0
 ·rw [if_pos hv, hv, Nat.zero_mul, zN]
 ·rw [if_neg hv, if_neg (by omega), if_neg (by omega), if_neg (by omega), Int.toNat_natCast]
theorem zlQ {v m : Nat} (h : bl v ≤ 131072) (hm : m ≤ 131072) : zcQ v (-(m : Int)) = (D (v / 2 ^ m), decide (v % 2 ^ m ≠ 0), 0) := by
 by_cases hv : v = 0
 ·unfold zcQ
  rw [if_pos hv, hv, Nat.zero_div, Nat.zero_mod, zN]; rfl
 rcases Nat.eq_zero_or_pos m with h0 | h0
 ·subst h0
  have e := zdT (v := v) (m := 0) (by omega)
  rw [Nat.pow_zero, Nat.mul_one] at e
  rw [Nat.pow_zero, Nat.div_one, Nat.mod_one]
  exact e
 ·unfold zcQ
  have e : (-(-(m : Int))).toNat = m := by omega
  rw [if_neg hv, if_neg (by omega), if_pos (by omega), e]
theorem zku {r L : Nat} (h : (D r).length ≤ L) : (D (r + 1)).length ≤ L + 1 := by
 refine zbs ?_
 have h1 := zdj r
 have h2 : 4294967296 ^ (D r).length ≤ 4294967296 ^ L := Nat.pow_le_pow_right (by omega) h
 rw [Nat.pow_succ]
 generalize 4294967296 ^ L = p at *
 omega
theorem zkt {a b L M : Nat} (ha : (D a).length ≤ L) (hb : (D b).length ≤ M) : (D (a * b)).length ≤ L + M := by
 refine zbs ?_
 rw [Nat.pow_add]
 exact Nat.mul_lt_mul'' (Nat.lt_of_lt_of_le (zdj a) (Nat.pow_le_pow_right (by omega) ha)) (Nat.lt_of_lt_of_le (zdj b) (Nat.pow_le_pow_right (by omega) hb))
theorem zl2 {q x Q X N : Nat} (hq : q < 4294967296 ^ Q) (hx : x < 4294967296 ^ X) (h1 : Q < N) (h2 : X < N) : q + x < 4294967296 ^ N := by
 obtain ⟨m, rfl⟩ := Nat.exists_eq_add_of_lt (show 0 < N by omega)
 have a : 4294967296 ^ Q ≤ 4294967296 ^ m := Nat.pow_le_pow_right (by omega) (by omega)
 have b : 4294967296 ^ X ≤ 4294967296 ^ m := Nat.pow_le_pow_right (by omega) (by omega)
 rw [Nat.zero_add, Nat.pow_succ]
 generalize 4294967296 ^ m = p at *
 omega
def sv (s : Bool) (n : Nat) : Int := if s = true then -(n : Int) else n
theorem zaz (s : Bool) (n : Nat) : (sv s n).natAbs = n := by unfold sv; split <;> simp
theorem zbb {s : Bool} {n : Nat} : sv s n = 0 ↔ n = 0 := by unfold sv; split <;> omega
theorem zeo {s : Bool} {n : Nat} (h : n ≠ 0) : decide (sv s n < 0) = s := by
 unfold sv
 cases s
 ·exact decide_eq_false (by simp)
 ·exact decide_eq_true (by simp; omega)
theorem zW (s : Bool) : sv s 0 = 0 := by unfold sv; split <;> rfl
def mk (z e : Int) : Bool × List Int × Int := if z = 0 then (false, [], 0) else (decide (z < 0), D (z.natAbs / 2 ^ lw z.natAbs), e + (lw z.natAbs : Nat))
theorem zkE (e : Int) : mk 0 e = (false, [], 0) := rfl
theorem zky {n : Nat} (h : n ≠ 0) (k : Nat) : lw (n * 2 ^ k) = lw n + k := zee (zhg (zcj h))
theorem zaI (z e : Int) (k : Nat) : mk (z * 2 ^ k) e = mk z (e + k) := by
 unfold mk
 by_cases h : z = 0
 ·subst h; simp
 ·have hp : (0 : Int) < 2 ^ k := Int.pow_pos (by omega)
  have h1 : z * 2 ^ k ≠ 0 := Int.mul_ne_zero h (by omega)
  have hn : z.natAbs ≠ 0 := by omega
  have h2 : (z * 2 ^ k).natAbs = z.natAbs * 2 ^ k := by rw [Int.natAbs_mul, Int.natAbs_pow]; rfl
  have h3 : decide (z * 2 ^ k < 0) = decide (z < 0) := decide_eq_decide.2 (by
   constructor
   ·intro h4
    rcases (show z < 0 ∨ 0 ≤ z by omega) with h5 | h5
    ·exact h5
    ·have := Int.mul_nonneg h5 (Int.le_of_lt hp); omega
   ·intro h4; exact Int.mul_neg_of_neg_of_pos h4 hp)
  rw [if_neg h, if_neg h1, h2, h3, zky hn]
  have h4 : z.natAbs * 2 ^ k / 2 ^ (lw z.natAbs + k) = z.natAbs / 2 ^ lw z.natAbs := by
   rw [Nat.pow_add]; exact Nat.mul_div_mul_right _ _ (zk k)
  rw [h4]
  congr 2
  omega
structure Dy (s : Bool) (l : List Int) (e : Int) : Prop where
 nm : Nm l
 none : l = [] → s = false ∧ e = 0
 odd : l ≠ [] → V l % 2 = 1
theorem zcC {n : Nat} (h : n % 2 = 1) : lw n = 0 := zee ⟨n / 2, by rw [Nat.pow_zero, Nat.one_mul]; omega⟩
theorem zdM {s : Bool} {l : List Int} {e : Int} (h : Dy s l e) : mk (sv s (V l)) e = (s, l, e) := by
 unfold mk
 by_cases c : l = []
 ·obtain ⟨h1, h2⟩ := h.none c
  subst c; subst h1; subst h2
  rfl
 ·have h1 := h.odd c
  have h0 : V l ≠ 0 := by omega
  rw [if_neg (fun h => h0 (zbb.1 h)), zaz, zeo h0, zcC h1, Nat.pow_zero, Nat.div_one, h.nm]
  simp
theorem zH (z e : Int) : Dy (mk z e).1 (mk z e).2.1 (mk z e).2.2 := by
 unfold mk
 by_cases h : z = 0
 ·rw [if_pos h]; exact ⟨zcm, fun _ => ⟨rfl, rfl⟩, fun h => absurd rfl h⟩
 ·rw [if_neg h]
  obtain ⟨m, hm⟩ := zcj (n := z.natAbs) (by omega)
  have h1 : z.natAbs / 2 ^ lw z.natAbs = 2 * m + 1 := by
   have : z.natAbs / 2 ^ lw z.natAbs = 2 ^ lw z.natAbs * (2 * m + 1) / 2 ^ lw z.natAbs := by rw [← hm]
   rw [this, Nat.mul_div_cancel_left _ (zk _)]
  have h2 : D (z.natAbs / 2 ^ lw z.natAbs) ≠ [] := by rw [h1, zbV (by omega)]; simp
  exact ⟨zo _, fun h => absurd h h2, fun _ => by show V (D _) % 2 = 1; rw [V_D, h1]; omega⟩
theorem zcD (s : Bool) {n : Nat} (h : n ≠ 0) (e : Int) : mk (sv s n) e = (s, D (n / 2 ^ lw n), e + (lw n : Nat)) := by
 unfold mk
 rw [if_neg (fun h2 => h (zbb.1 h2)), zaz, zeo h]
theorem zdk {n : Nat} (h : n ≠ 0) : lw n < bl n := by
 have h1 := (zcj h).le
 rcases Nat.lt_or_ge (lw n) (bl n) with h2 | h2
 ·exact h2
 ·have h3 := zac n
  have h4 : 2 ^ bl n ≤ 2 ^ lw n := Nat.pow_le_pow_right (by omega) h2
  omega
theorem zax {l : List Int} : (l.length : Int) = 0 ↔ l = [] := by
 constructor
 ·intro h; exact List.eq_nil_of_length_eq_zero (by omega)
 ·intro h; rw [h]; rfl
theorem zeq {e : Int} {b : Nat} (h1 : -1000000000000000 ≤ e) (h2 : e ≤ 1000000000000000) (hb : b < 100000000000) : wrap64 (e + (b : Int)) = e + (b : Int) := by unfold wrap64; omega
theorem zbR (s : Bool) {l : List Int} (hl : Nm l) (ll : l.length < 10000000) {e : Int} (h1 : -1000000000000000 ≤ e) (h2 : e ≤ 1000000000000000) : Ev (fun k => zX.f k s l e) (mk (sv s (V l)) e) := by
 unfold zX.f
 by_cases c : l = []
 ·subst c
  (repeat (first | with_reducible refine ep ?_ | with_reducible refine en ?_))
  exact zg (Ev.now _) (by rw [zO, zW]; rfl)
 ·have h0 : V l ≠ 0 := fun h => c ((zcZ hl).1 h)
  have hb := zaM hl.dg
  have hw := zdk h0
  refine zf (fun h => c (zax.1 h)) ?_
  refine Ev.bind (zhY hl.dg (by omega)) ?_
  (repeat (first | with_reducible refine ep ?_ | with_reducible refine en ?_))
  refine Ev.bind (zf2 hl (by omega) (lw (V l)) (by omega)) ?_
  (repeat (first | with_reducible refine ep ?_ | with_reducible refine en ?_))
  refine zg (Ev.now _) ?_
  rw [zcD s h0, zeq h1 h2 (by omega)]
def zef (s : Bool) (n : Nat) (e : Int) : Bool × List Int × Int × Int :=
 if n = 0 then (false, [], 0, 0) else if e > 16777216 - (lw n : Nat) then (false, [], 0, 20) else if e < -16777216 - (lw n : Nat) then (false, [], 0, 20) else ((mk (sv s n) e).1, (mk (sv s n) e).2.1, (mk (sv s n) e).2.2, 0)
theorem zdd (s : Bool) {l : List Int} (hl : Nm l) (ll : l.length ≤ 4096) (e : Int) : Ev (fun k => zai.f k s l e) (zef s (V l) e) := by
 unfold zai.f zef
 refine zi (zcJ hl.dg (by omega)) ?_
 rw [zaT.2 ⟨ll, hl⟩]
 (repeat (first | with_reducible refine ep ?_ | with_reducible refine en ?_))
 by_cases c : l = []
 ·subst c
  (repeat (first | with_reducible refine ep ?_ | with_reducible refine en ?_))
  exact zg (Ev.now _) (by rw [zO, if_pos rfl])
 ·have h0 : V l ≠ 0 := fun h => c ((zcZ hl).1 h)
  have hb := zaM hl.dg
  have hw := zdk h0
  rw [if_neg h0]
  refine zf (fun h => c (zax.1 h)) ?_
  refine Ev.bind (zhu hl ll) ?_
  (repeat (first | with_reducible refine ep ?_ | with_reducible refine en ?_))
  have e1 : wrap64 (16777216 - ((lw (V l) : Nat) : Int)) = 16777216 - ((lw (V l) : Nat) : Int) := by unfold wrap64; omega
  have e2 : wrap64 (-16777216 - ((lw (V l) : Nat) : Int)) = -16777216 - ((lw (V l) : Nat) : Int) := by unfold wrap64; omega
  have e3 : wrap64 (-((lw (V l) : Nat) : Int)) = -((lw (V l) : Nat) : Int) := by unfold wrap64; omega
  rw [e1, e2, e3]
  clear e1 e2 e3
  by_cases h1 : e > 16777216 - ((lw (V l) : Nat) : Int)
  ·rw [if_pos h1]; exact ze h1 (Ev.now _)
  rw [if_neg h1]
  refine zf h1 ?_
  by_cases h2 : e < -16777216 - ((lw (V l) : Nat) : Int)
  ·rw [if_pos h2]; exact ze h2 (Ev.now _)
  rw [if_neg h2]
  have hs := zdn hl ll (-((lw (V l) : Nat) : Int))
  rw [zlQ (by omega) (by omega)] at hs
  refine zf h2 ?_
  refine Ev.bind hs ?_
  (repeat (first | with_reducible refine ep ?_ | with_reducible refine en ?_))
  refine zg (Ev.now _) ?_
  rw [zcD s h0, zeq (by omega) (by omega) (by omega)]
def al (z e m : Int) : Int := z * 2 ^ (e - m).toNat
theorem zeg {z e m : Int} (h : m ≤ e) : mk (al z e m) m = mk z e := by
 unfold al
 rw [zaI]
 congr 1
 omega
theorem zco (e m : Int) : al 0 e m = 0 := by unfold al; rw [Int.zero_mul]
theorem zdA {z e m n : Int} (h1 : m ≤ e) (h2 : n ≤ m) : al (al z e m) m n = al z e n := by
 unfold al
 rw [Int.mul_assoc, ← Int.pow_add]
 congr 2
 omega
theorem zgG (x y e m : Int) : al (x + y) e m = al x e m + al y e m := by unfold al; rw [Int.add_mul]
theorem za1 (s : Bool) (n : Nat) (e m : Int) : al (sv s n) e m = sv s (n * 2 ^ (e - m).toNat) := by
 unfold al sv
 split
 ·rw [Int.neg_mul, Int.natCast_mul, Int.natCast_pow]; rfl
 ·rw [Int.natCast_mul, Int.natCast_pow]; rfl
theorem zit (s : Bool) (x y : Nat) : sv s x + sv s y = sv s (x + y) := by unfold sv; split <;> omega
theorem zfb {s t : Bool} (h : s ≠ t) {x y : Nat} (hl : y ≤ x) : sv s x + sv t y = sv s (x - y) := by
 unfold sv
 cases s <;> cases t <;> simp at h ⊢ <;> omega
theorem zfa (s : Bool) (n : Nat) : sv (!s) n = -sv s n := by unfold sv; cases s <;> simp
def zl (za ea zb eb : Int) : Bool × List Int × Int := mk (al za ea (min ea eb) + al zb eb (min ea eb)) (min ea eb)
theorem zcn {za ea zb eb m : Int} (h1 : m ≤ ea) (h2 : m ≤ eb) : mk (al za ea m + al zb eb m) m = zl za ea zb eb := by
 unfold zl
 have h3 : m ≤ min ea eb := by omega
 rw [← zdA (z := za) (e := ea) (m := min ea eb) (n := m) (by omega) h3, ← zdA (z := zb) (e := eb) (m := min ea eb) (n := m) (by omega) h3, ← zgG]
 exact zeg h3
theorem zdz (ea zb eb : Int) : zl 0 ea zb eb = mk zb eb := by
 unfold zl; rw [zco, Int.zero_add]; exact zeg (by omega)
theorem zfk (za ea eb : Int) : zl za ea 0 eb = mk za ea := by
 unfold zl; rw [zco, Int.add_zero]; exact zeg (by omega)
theorem zgj {l : List Int} (h : Dg l) {n : Nat} : (D (V l * 2 ^ n)).length ≤ l.length + n / 32 + 1 := by
 refine zaj (Nat.le_trans (zbX _ _) ?_)
 have := zaM h
 omega
theorem ziS {e m : Int} (h1 : -1000000000000000 ≤ e) (h2 : e ≤ 1000000000000000) (h3 : -1000000000000000 ≤ m) (h4 : m ≤ e) : wrap64 (e - m) = ((e - m).toNat : Int) := by unfold wrap64; omega
theorem zhS {sa sb : Bool} {la lb : List Int} {ea eb m : Int} (na : Nm la) (nb : Nm lb) (ha : la.length ≤ 1000000) (hb : lb.length ≤ 1000000) (h1 : m ≤ ea) (h2 : m ≤ eb) (h3 : (ea - m).toNat ≤ 100000000) (h4 : (eb - m).toNat ≤ 100000000) (hm : -100000000000000 ≤ m) (hM : m ≤ 100000000000000) :
  Ev (fun k => zL.j2 k sa la ea sb lb eb false [] 0 m) (mk (al (sv sa (V la)) ea m + al (sv sb (V lb)) eb m) m) := by
 refine zh ?_
 simp only [zL.j2]
 rw [ziS (e := ea) (by omega) (by omega) (by omega) h1, ziS (e := eb) (by omega) (by omega) (by omega) h2]
 rw [za1, za1]
 generalize (ea - m).toNat = p at *
 generalize (eb - m).toNat = q at *
 have l1 := zgj na.dg (n := p)
 have l2 := zgj nb.dg (n := q)
 refine Ev.bind (zel na.dg (by omega) p (by omega)) ?_
 (repeat (first | with_reducible refine ep ?_ | with_reducible refine en ?_))
 refine Ev.bind (zel nb.dg (by omega) q (by omega)) ?_
 (repeat (first | with_reducible refine ep ?_ | with_reducible refine en ?_))
 generalize V la * 2 ^ p = x at *
 generalize V lb * 2 ^ q = y at *
 by_cases hs : sa = sb
 ·subst hs
  have hadd := zf0 (zcY x) (zcY y) (by omega) (by omega)
  rw [V_D, V_D] at hadd
  have l3 : (D (x + y)).length ≤ la.length + lb.length + p / 32 + q / 32 + 3 := by
   refine zbs ?_
   have h5 := zdj x
   have h6 := zdj y
   refine zl2 (N := la.length + lb.length + p / 32 + q / 32 + 3) h5 h6 (by omega) (by omega)
  have hf := zbR sa (zo (x + y)) (by omega) (e := m) (by omega) (by omega)
  rw [V_D] at hf
  (repeat (first | with_reducible refine ep ?_ | with_reducible refine en ?_))
  refine Ev.bind hadd ?_
  (repeat (first | with_reducible refine ep ?_ | with_reducible refine en ?_))
  refine Ev.bind hf ?_
  (repeat (first | with_reducible refine ep ?_ | with_reducible refine en ?_))
  refine zg (Ev.now _) ?_
  rw [zit]
 ·refine zf (by simpa using hs) ?_
  refine Ev.bind (zhX (zo x) (zo y) (by omega)) ?_
  (repeat (first | with_reducible refine ep ?_ | with_reducible refine en ?_))
  rw [V_D, V_D]
  by_cases hc : y ≤ x
  ·have hsub := zf4 (zo x) (zo y) (by omega) (by rw [V_D, V_D]; exact hc)
   rw [V_D, V_D] at hsub
   have l3 : (D (x - y)).length ≤ (D x).length := zdX (Nat.sub_le _ _)
   have hf := zbR sa (zo (x - y)) (by omega) (e := m) (by omega) (by omega)
   rw [V_D] at hf
   refine ze (zd1.2 hc) ?_
   refine Ev.bind hsub ?_
   (repeat (first | with_reducible refine ep ?_ | with_reducible refine en ?_))
   refine Ev.bind hf ?_
   (repeat (first | with_reducible refine ep ?_ | with_reducible refine en ?_))
   refine zg (Ev.now _) ?_
   rw [zfb hs hc]
  ·have hsub := zf4 (zo y) (zo x) (by omega) (by rw [V_D, V_D]; omega)
   rw [V_D, V_D] at hsub
   have l3 : (D (y - x)).length ≤ (D y).length := zdX (Nat.sub_le _ _)
   have hf := zbR sb (zo (y - x)) (by omega) (e := m) (by omega) (by omega)
   rw [V_D] at hf
   refine zf (fun h => hc (zd1.1 h)) ?_
   refine Ev.bind hsub ?_
   (repeat (first | with_reducible refine ep ?_ | with_reducible refine en ?_))
   refine Ev.bind hf ?_
   (repeat (first | with_reducible refine ep ?_ | with_reducible refine en ?_))
   refine zg (Ev.now _) ?_
   rw [Int.add_comm, zfb (fun h => hs h.symm) (by omega)]
structure zet (la : List Int) (ea : Int) (lb : List Int) (eb : Int) : Prop where
 a : la.length ≤ 1000000
 b : lb.length ≤ 1000000
 d : (ea - eb).natAbs ≤ 100000000
 e : -10000000000000 ≤ ea ∧ ea ≤ 10000000000000
theorem zhW {sa sb : Bool} {la lb : List Int} {ea eb : Int} (ha : Dy sa la ea) (hb : Dy sb lb eb) (h : zet la ea lb eb) : Ev (fun k => zL.f k sa la ea sb lb eb) (zl (sv sa (V la)) ea (sv sb (V lb)) eb) := by
 obtain ⟨h1, h2, h3, h4⟩ := h
 unfold zL.f
 by_cases c : la = []
 ·subst c
  (repeat (first | with_reducible refine ep ?_ | with_reducible refine en ?_))
  refine zg (Ev.now _) ?_
  rw [zO, zW, zdz, zdM hb]
 refine zf (fun h => c (zax.1 h)) ?_
 by_cases c2 : lb = []
 ·subst c2
  (repeat (first | with_reducible refine ep ?_ | with_reducible refine en ?_))
  refine zg (Ev.now _) ?_
  rw [zO, zW, zfk, zdM ha]
 refine zf (fun h => c2 (zax.1 h)) ?_
 by_cases c3 : eb < ea
 ·refine ze c3 ?_
  exact zg (zhS ha.nm hb.nm h1 h2 (by omega) (by omega) (by omega) (by omega) (by omega) (by omega)) (zcn (by omega) (by omega))
 ·refine zf c3 ?_
  exact zg (zhS ha.nm hb.nm h1 h2 (by omega) (by omega) (by omega) (by omega) (by omega) (by omega)) (zcn (by omega) (by omega))
theorem zdK {l : List Int} (c : l ≠ []) : (l.length : Int) > 0 := by
 have := List.length_pos_iff.2 c
 omega
theorem zhZ {s : Bool} {l : List Int} {e : Int} (h : Dy s l e) : zcd.f s l e = some (mk (-(sv s (V l))) e) := by
 unfold zcd.f
 by_cases c : l = []
 ·obtain ⟨h1, h2⟩ := h.none c
  subst c; subst h1; subst h2
  rfl
 ·have hl := zdK c
  have h1 := h.odd c
  have h0 : V l ≠ 0 := by omega
  rw [if_pos hl, ← zfa, zcD _ h0, zcC h1, Nat.pow_zero, Nat.div_one, h.nm]
  simp
theorem zkB {z e : Int} : (mk z e).2.1 = D (z.natAbs / 2 ^ lw z.natAbs) := by
 unfold mk
 by_cases h : z = 0
 ·subst h; rw [if_pos rfl]; simp [zN]
 ·rw [if_neg h]
theorem zb9 {s : Bool} {n : Nat} (h : n ≠ 0) : (sv s n).sign = if s = true then -1 else 1 := by
 unfold sv
 split
 ·exact Int.sign_eq_neg_one_of_neg (by omega)
 ·exact Int.sign_eq_one_of_pos (by omega)
theorem zek {s : Bool} {l : List Int} {e : Int} (h : Dy s l e) : z7.f s l e = some (sv s (V l)).sign := by
 unfold z7.f
 by_cases c : l = []
 ·subst c
  rw [if_pos (zax.2 rfl), zO, zW]; rfl
 ·have h1 := h.odd c
  have h0 : V l ≠ 0 := by omega
  rw [if_neg (fun h => c (zax.1 h)), zb9 h0]
  split <;> rfl
def top (z e : Int) : Int := if z = 0 then 0 else e + (bl z.natAbs : Nat)
theorem ze3 {s : Bool} {l : List Int} {e : Int} (h : Dy s l e) (hl : l.length ≤ 1000000) (h1 : -1000000000000000 ≤ e) (h2 : e ≤ 1000000000000000) : Ev (fun k => zat.f k s l e) (top (sv s (V l)) e) := by
 unfold zat.f top
 by_cases c : l = []
 ·subst c
  (repeat (first | with_reducible refine ep ?_ | with_reducible refine en ?_))
  exact zg (Ev.now _) (by rw [zO, zW]; rfl)
 ·have h3 := h.odd c
  have h0 : V l ≠ 0 := by omega
  have hb := zaM h.nm.dg
  refine zf (fun h => c (zax.1 h)) ?_
  refine Ev.bind (zbS h.nm (by omega)) ?_
  (repeat (first | with_reducible refine ep ?_ | with_reducible refine en ?_))
  refine zg (Ev.now _) ?_
  rw [if_neg (fun h => h0 (zbb.1 h)), zaz, zeq h1 h2 (by omega)]
theorem ziu (s t : Bool) (x y : Nat) : sv s x * sv t y = sv (s != t) (x * y) := by
 unfold sv
 cases s <;> cases t <;> simp [Int.mul_neg, Int.neg_mul]
theorem zhy (s t : Bool) : decide (¬ s = t) = (s != t) := by cases s <;> cases t <;> rfl
theorem zlv {sa sb : Bool} {la lb : List Int} {ea eb : Int} (ha : Dy sa la ea) (hb : Dy sb lb eb) (l1 : la.length ≤ 1000000) (l2 : lb.length ≤ 1000000) (h1 : -100000000000000 ≤ ea) (h2 : ea ≤ 100000000000000) (h3 : -100000000000000 ≤ eb) (h4 : eb ≤ 100000000000000) :
  Ev (fun k => zbe.f k sa la ea sb lb eb) (mk (sv sa (V la) * sv sb (V lb)) (ea + eb)) := by
 unfold zbe.f
 have e : wrap64 (ea + eb) = ea + eb := by unfold wrap64; omega
 rw [e]
 have hl : (D (V la * V lb)).length ≤ la.length + lb.length := zkt (by rw [ha.nm.len]; exact Nat.le_refl _) (by rw [hb.nm.len]; exact Nat.le_refl _)
 have hf := zbR (sa != sb) (zo (V la * V lb)) (by omega) (e := ea + eb) (by omega) (by omega)
 rw [V_D] at hf
 refine Ev.bind (zlw ha.nm.dg hb.nm.dg (by omega) (by omega)) ?_
 (repeat (first | with_reducible refine ep ?_ | with_reducible refine en ?_))
 rw [zhy]
 refine Ev.bind hf ?_
 (repeat (first | with_reducible refine ep ?_ | with_reducible refine en ?_))
 refine zg (Ev.now _) ?_
 rw [ziu]
theorem zh0 {sa sb : Bool} {la lb : List Int} {ea eb : Int} (ha : Dy sa la ea) (hb : Dy sb lb eb) (h : zet la ea lb eb) : Ev (fun k => zbA.f k sa la ea sb lb eb) (zl (sv sa (V la)) ea (-(sv sb (V lb))) eb) := by
 unfold zbA.f
 have hn := zH (-(sv sb (V lb))) eb
 have e1 : mk (-(sv sb (V lb))) eb = ((mk (-(sv sb (V lb))) eb).1, (mk (-(sv sb (V lb))) eb).2.1, (mk (-(sv sb (V lb))) eb).2.2) := rfl
 have hv : (mk (-(sv sb (V lb))) eb).2.1 = lb ∧ sv (mk (-(sv sb (V lb))) eb).1 (V lb) = -(sv sb (V lb)) ∧ (mk (-(sv sb (V lb))) eb).2.2 = eb := by
  by_cases c : lb = []
  ·obtain ⟨h1, h2⟩ := hb.none c
   subst c; subst h1; subst h2
   exact ⟨rfl, by rw [zO, zW, zW]; rfl, rfl⟩
  ·have h3 := hb.odd c
   have h0 : V lb ≠ 0 := by omega
   rw [← zfa, zcD _ h0, zcC h3, Nat.pow_zero, Nat.div_one, hb.nm]
   exact ⟨rfl, rfl, by simp⟩
 refine zi (zhZ hb) ?_
 (repeat (first | with_reducible refine ep ?_ | with_reducible refine en ?_))
 rw [hv.1, hv.2.2] at hn
 have ha2 := zhW ha hn h
 rw [hv.2.1] at ha2
 simp only [hv.1, hv.2.2]
 refine Ev.bind ha2 ?_
 (repeat (first | with_reducible refine ep ?_ | with_reducible refine en ?_))
 exact Ev.now _
theorem zlA {s : Bool} {l : List Int} {e n : Int} (h : Dy s l e) (h1 : -100000000000000 ≤ e) (h2 : e ≤ 100000000000000) (h3 : -100000000000000 ≤ n) (h4 : n ≤ 100000000000000) : zbL.f s l e n = some (mk (sv s (V l)) (e + n)) := by
 unfold zbL.f
 have ew : wrap64 (e + n) = e + n := by unfold wrap64; omega
 by_cases c : l = []
 ·obtain ⟨h1, h2⟩ := h.none c
  subst c; subst h1; subst h2
  rw [if_neg (by simp), zO, zW]; rfl
 ·have h5 := h.odd c
  have h0 : V l ≠ 0 := by omega
  rw [if_pos (zdK c), zcD _ h0, zcC h5, Nat.pow_zero, Nat.div_one, h.nm, ew]
  simp
theorem zly (s : Bool) (l : List Int) (e : Int) (s' : Bool) (l' : List Int) (e' : Int) (hb : l.length < 4611686018427387904) : Ev (fun k => zbY.f k s l e s' l' e') (decide ((s, l, e) = (s', l', e'))) := by
 unfold zbY.f
 by_cases h1 : s = s'
 ·by_cases h2 : e = e'
  ·refine ze (by simpa using h1) ?_
   refine ze h2 ?_
   refine Ev.bind (zlz l l' hb) ?_
   (repeat (first | with_reducible refine ep ?_ | with_reducible refine en ?_))
   refine zg (Ev.now _) ?_
   exact decide_eq_decide.2 (by simp [h1, h2])
  ·refine ze (by simpa using h1) ?_
   refine zf h2 ?_
   exact zg (Ev.now _) (decide_eq_false (by simp [h2])).symm
 ·refine zf (by simpa using h1) ?_
  exact zg (Ev.now _) (decide_eq_false (by simp [h1])).symm
theorem zhq (z e : Int) : (sv (mk z e).1 (V (mk z e).2.1)).sign = z.sign := by
 unfold mk
 by_cases h : z = 0
 ·subst h; rfl
 ·rw [if_neg h]
  have hn : z.natAbs ≠ 0 := by omega
  have h1 : V (D (z.natAbs / 2 ^ lw z.natAbs)) ≠ 0 := by
   rw [V_D]
   have h2 := (zcj hn).le
   have := Nat.div_pos h2 (zk _)
   omega
  show (sv (decide (z < 0)) (V (D (z.natAbs / 2 ^ lw z.natAbs)))).sign = z.sign
  rw [zb9 h1]
  by_cases h3 : z < 0
  ·rw [decide_eq_true h3, if_pos rfl, Int.sign_eq_neg_one_of_neg h3]
  ·rw [decide_eq_false h3, if_neg (by simp), Int.sign_eq_one_of_pos (by omega)]
theorem zej (k : Nat) : (0 : Int) < 2 ^ k := Int.pow_pos (by omega)
theorem zaE (z e m : Int) : (al z e m).sign = z.sign := by
 unfold al
 rw [Int.sign_mul, Int.sign_eq_one_of_pos (zej _), Int.mul_one]
theorem zgF (z e m : Int) : (al z e m).natAbs = z.natAbs * 2 ^ (e - m).toNat := by
 unfold al
 rw [Int.natAbs_mul, Int.natAbs_pow]; rfl
theorem zeB {z e m : Int} (h : z ≠ 0) (hm : m ≤ e) : ((bl (al z e m).natAbs : Nat) : Int) + m = top z e := by
 rw [zgF, zbJ (by omega)]
 unfold top
 rw [if_neg h]
 omega
theorem zhl {x y : Nat} (h : bl x < bl y) : x < y := by
 rcases Nat.lt_or_ge x y with h1 | h1
 ·exact h1
 ·have := zbu h1; omega
def zp (za ea zb eb : Int) : Int := (al za ea (min ea eb) - al zb eb (min ea eb)).sign
theorem zfs {a b : Int} : (a - b).sign = if a < b then -1 else if b < a then 1 else 0 := by
 split
 ·exact Int.sign_eq_neg_one_of_neg (by omega)
 ·split
  ·exact Int.sign_eq_one_of_pos (by omega)
  ·have : a - b = 0 := by omega
   rw [this]; rfl
theorem zaZ (z : Int) : (z < 0 ∧ z.sign = -1) ∨ (z = 0 ∧ z.sign = 0) ∨ (0 < z ∧ z.sign = 1) := by
 rcases Int.lt_trichotomy z 0 with h | h | h
 ·exact .inl ⟨h, Int.sign_eq_neg_one_of_neg h⟩
 ·exact .inr (.inl ⟨h, by rw [h]; rfl⟩)
 ·exact .inr (.inr ⟨h, Int.sign_eq_one_of_pos h⟩)
theorem zg0 {a b : Int} (h : a.sign ≠ b.sign) : (a - b).sign = if a.sign < b.sign then -1 else 1 := by
 rw [zfs]
 rcases zaZ a with ⟨h1, e1⟩ | ⟨h1, e1⟩ | ⟨h1, e1⟩ <;> rcases zaZ b with ⟨h2, e2⟩ | ⟨h2, e2⟩ | ⟨h2, e2⟩ <;> rw [e1, e2] at h ⊢ <;> first | exact absurd rfl h | (simp <;> omega)
theorem zfr {a b : Int} (h : a.sign = b.sign) (h0 : a.sign ≠ 0) (hl : bl a.natAbs ≠ bl b.natAbs) : (a - b).sign = if (decide (bl a.natAbs < bl b.natAbs) == decide (a.sign > 0)) = true then -1 else 1 := by
 rw [zfs]
 have hlt : bl a.natAbs < bl b.natAbs ∨ bl b.natAbs < bl a.natAbs := by omega
 have hn : a.natAbs ≠ b.natAbs := fun e => hl (by rw [e])
 rcases hlt with h1 | h1
 ·have h2 := zhl h1
  rw [decide_eq_true h1]
  rcases zaZ a with ⟨h3, e1⟩ | ⟨h3, e1⟩ | ⟨h3, e1⟩
  ·rw [e1] at h ⊢
   have : b < 0 := by rcases zaZ b with ⟨h4, e2⟩ | ⟨h4, e2⟩ | ⟨h4, e2⟩ <;> omega
   rw [if_neg (by omega), if_pos (by omega)]; rfl
  ·exact absurd e1 h0
  ·rw [e1] at h ⊢
   have : 0 < b := by rcases zaZ b with ⟨h4, e2⟩ | ⟨h4, e2⟩ | ⟨h4, e2⟩ <;> omega
   rw [if_pos (by omega)]; rfl
 ·have h2 := zhl h1
  rw [decide_eq_false (by omega : ¬ bl a.natAbs < bl b.natAbs)]
  rcases zaZ a with ⟨h3, e1⟩ | ⟨h3, e1⟩ | ⟨h3, e1⟩
  ·rw [e1] at h ⊢
   have : b < 0 := by rcases zaZ b with ⟨h4, e2⟩ | ⟨h4, e2⟩ | ⟨h4, e2⟩ <;> omega
   rw [if_pos (by omega)]; rfl
  ·exact absurd e1 h0
  ·rw [e1] at h ⊢
   have : 0 < b := by rcases zaZ b with ⟨h4, e2⟩ | ⟨h4, e2⟩ | ⟨h4, e2⟩ <;> omega
   rw [if_neg (by omega), if_pos (by omega)]; rfl
theorem zju (za ea zb eb : Int) : zp za ea zb eb = (al za ea (min ea eb) - al zb eb (min ea eb)).sign := rfl
theorem zik {z : Int} (h : z.sign ≠ 0) : z ≠ 0 := fun e => h (by rw [e]; rfl)
theorem zlq {sa sb : Bool} {la lb : List Int} {ea eb : Int} (ha : Dy sa la ea) (hb : Dy sb lb eb) (h : zet la ea lb eb) : Ev (fun k => zc3.f k sa la ea sb lb eb) (zp (sv sa (V la)) ea (sv sb (V lb)) eb) := by
 have hs := zh0 ha hb h
 obtain ⟨h1, h2, h3, h4⟩ := h
 have ta := ze3 ha h1 (by omega) (by omega)
 have tb := ze3 hb h2 (by omega) (by omega)
 unfold zc3.f
 refine zi (zek ha) ?_
 (repeat (first | with_reducible refine ep ?_ | with_reducible refine en ?_))
 refine zi (zek hb) ?_
 (repeat (first | with_reducible refine ep ?_ | with_reducible refine en ?_))
 rw [zju]
 generalize hza : sv sa (V la) = za at *
 generalize hzb : sv sb (V lb) = zb at *
 have hm1 : min ea eb ≤ ea := by omega
 have hm2 : min ea eb ≤ eb := by omega
 by_cases c : za.sign = zb.sign
 ·refine zf (fun h => h c) ?_
  by_cases c0 : za.sign = 0
  ·refine ze c0 ?_
   refine zg (Ev.now _) ?_
   have e1 : za = 0 := by rcases zaZ za with ⟨_, e⟩ | ⟨e, _⟩ | ⟨_, e⟩ <;> omega
   have e2 : zb = 0 := by rcases zaZ zb with ⟨_, e⟩ | ⟨e, _⟩ | ⟨_, e⟩ <;> omega
   rw [e1, e2, zco, zco]; rfl
  ·refine zf c0 ?_
   refine Ev.bind ta ?_
   (repeat (first | with_reducible refine ep ?_ | with_reducible refine en ?_))
   refine Ev.bind tb ?_
   (repeat (first | with_reducible refine ep ?_ | with_reducible refine en ?_))
   have ba := zeB (zik c0) hm1
   have bb := zeB (z := zb) (zik (by rw [← c]; exact c0)) hm2
   by_cases ct : top za ea = top zb eb
   ·refine zf (fun h => h ct) ?_
    refine Ev.bind hs ?_
    (repeat (first | with_reducible refine ep ?_ | with_reducible refine en ?_))
    have hd := zH (al za ea (min ea eb) + al (-zb) eb (min ea eb)) (min ea eb)
    have hg : zl za ea (-zb) eb = mk (al za ea (min ea eb) + al (-zb) eb (min ea eb)) (min ea eb) := rfl
    rw [hg]
    refine zi (zek hd) ?_
    (repeat (first | with_reducible refine ep ?_ | with_reducible refine en ?_))
    refine zg (Ev.now _) ?_
    rw [zhq]
    congr 1
    unfold al
    rw [Int.neg_mul]; rfl
   ·refine ze ct ?_
    refine Ev.bind ta ?_
    (repeat (first | with_reducible refine ep ?_ | with_reducible refine en ?_))
    refine Ev.bind tb ?_
    (repeat (first | with_reducible refine ep ?_ | with_reducible refine en ?_))
    have hne : bl (al za ea (min ea eb)).natAbs ≠ bl (al zb eb (min ea eb)).natAbs := fun e => ct (by rw [← ba, ← bb, e])
    have hc := zfr (a := al za ea (min ea eb)) (b := al zb eb (min ea eb)) (by rw [zaE, zaE]; exact c) (by rw [zaE]; exact c0) hne
    rw [zaE] at hc
    have hd : decide (top za ea < top zb eb) = decide (bl (al za ea (min ea eb)).natAbs < bl (al zb eb (min ea eb)).natAbs) := decide_eq_decide.2 (by omega)
    rw [hc, hd]
    generalize decide (bl (al za ea (min ea eb)).natAbs < bl (al zb eb (min ea eb)).natAbs) = p
    generalize decide (za.sign > 0) = q
    by_cases cq : p = q
    ·exact ze cq (zg (Ev.now _) (by rw [if_pos (beq_iff_eq.2 cq)]))
    ·exact zf cq (zg (Ev.now _) (by rw [if_neg (fun h => cq (beq_iff_eq.1 h))]))
 ·refine ze c ?_
  have hc := zg0 (a := al za ea (min ea eb)) (b := al zb eb (min ea eb)) (by rw [zaE, zaE]; exact c)
  rw [zaE, zaE] at hc
  rw [hc]
  by_cases c1 : za.sign < zb.sign
  ·refine ze c1 ?_
   exact zg (Ev.now _) (if_pos c1).symm
  ·refine zf c1 ?_
   exact zg (Ev.now _) (if_neg c1).symm
def zY (z e : Int) : Int := if 0 ≤ e then z * 2 ^ e.toNat else z / 2 ^ (-e).toNat
theorem zea (s : Bool) (n k : Nat) : sv s n / 2 ^ k = sv s (n / 2 ^ k + if s = true ∧ n % 2 ^ k ≠ 0 then 1 else 0) := by
 have hp := zk k
 have hc : (2 : Int) ^ k = ((2 ^ k : Nat) : Int) := by rw [Int.natCast_pow]; rfl
 unfold sv
 cases s
 ·simp only [Bool.false_eq_true, if_false, false_and, Nat.add_zero]
  rw [hc]; rfl
 ·simp only [if_true, true_and]
  rw [hc]
  generalize 2 ^ k = p at *
  have h1 := Nat.div_add_mod n p
  have h2 := Nat.mod_lt n hp
  by_cases hm : n % p = 0
  ·rw [if_neg (by simp [hm]), Nat.add_zero]
   have h3 : n = p * (n / p) := by omega
   refine Int.ediv_eq_of_eq_mul_left (by omega) ?_
   rw [Int.neg_mul]
   congr 1
   have : ((n / p : Nat) : Int) * (p : Int) = ((n / p * p : Nat) : Int) := by rw [Int.natCast_mul]
   rw [this, Nat.mul_comm, ← h3]
  ·rw [if_pos hm]
   have h4 : (-(n : Int)) = (p : Int) * (-((n / p + 1 : Nat) : Int)) + ((p - n % p : Nat) : Int) := by
    have h5 : (p : Int) * (-((n / p + 1 : Nat) : Int)) = -((p * (n / p) + p : Nat) : Int) := by
     rw [Int.mul_neg, ← Int.natCast_mul, Nat.mul_add, Nat.mul_one]
    rw [h5]
    omega
   rw [h4, Int.mul_add_ediv_left _ _ (by omega), Int.ediv_eq_zero_of_lt (by omega) (by omega), Int.add_zero]
theorem zlt {s : Bool} {l : List Int} {e : Int} (h : Dy s l e) (hl : l.length ≤ 1000000) (h1 : -900000000 ≤ e) (h2 : e ≤ 900000000) : Ev (fun k => zcr.f k s l e) (mk (zY (sv s (V l)) e) 0) := by
 unfold zcr.f zY
 by_cases c : 0 ≤ e
 ·refine ze c ?_
  refine zg (Ev.now _) ?_
  rw [if_pos c, zaI, show (0 : Int) + (e.toNat : Int) = e by omega, zdM h]
 ·refine zf c ?_
  rw [if_neg c]
  have ew : wrap64 (-e) = (((-e).toNat : Nat) : Int) := by unfold wrap64; omega
  rw [ew]
  clear ew
  have hn : (-e).toNat < 1000000000 := by omega
  generalize (-e).toNat = n at *
  refine Ev.bind (zf2 h.nm (by omega) n hn) ?_
  (repeat (first | with_reducible refine ep ?_ | with_reducible refine en ?_))
  have hd : (D (V l / 2 ^ n)).length ≤ l.length := zbs (Nat.lt_of_le_of_lt (Nat.div_le_self _ _) (zbt h.nm.dg))
  have d1 : Dg [1] := Dg.cons (by omega) (by omega) Dg.nil
  have v1 : V [1] = 1 := by simp
  have hadd := zf0 (zcY (V l / 2 ^ n)) d1 (by omega) (by simp)
  rw [V_D, v1] at hadd
  have hl2 : (D (V l / 2 ^ n + 1)).length ≤ l.length + 1 := zku hd
  have f1 := zbR s (zo (V l / 2 ^ n + 1)) (by omega) (e := 0) (by omega) (by omega)
  have f0 := zbR s (zo (V l / 2 ^ n)) (by omega) (e := 0) (by omega) (by omega)
  rw [V_D] at f0 f1
  cases s
  ·refine zf (by simp) (Ev.bind f0 (zg (Ev.now _) ?_))
   rw [zea, if_neg (by simp)]; rfl
  ·refine ze rfl ?_
   by_cases hc : V l % 2 ^ n ≠ 0
   ·refine ze (decide_eq_true hc) (Ev.bind hadd (Ev.bind f1 (zg (Ev.now _) ?_)))
    rw [zea, if_pos ⟨rfl, hc⟩]
   ·refine zf (by rw [decide_eq_false hc]; simp) (Ev.bind f0 (zg (Ev.now _) ?_))
    rw [zea, if_neg (fun h => hc h.2)]; rfl
theorem zlr {s : Bool} {l : List Int} {e : Int} (h : Dy s l e) (hl : l.length ≤ 1000000) (h1 : -100000000000000 ≤ e) (h2 : e ≤ 100000000000000) (b : Nat) (hb : b ≤ 100000000) : Ev (fun k => zc4.f k s l e b) ((mk (sv s (V l / 2 ^ (bl (V l) - b))) (e + ((bl (V l) - b : Nat) : Int))).1, (mk (sv s (V l / 2 ^ (bl (V l) - b))) (e + ((bl (V l) - b : Nat) : Int))).2.1, (mk (sv s (V l / 2 ^ (bl (V l) - b))) (e + ((bl (V l) - b : Nat) : Int))).2.2, decide (V l % 2 ^ (bl (V l) - b) ≠ 0)) := by
 unfold zc4.f
 have hbl := zaM h.nm.dg
 refine Ev.bind (zbS h.nm (by omega)) ?_
 (repeat (first | with_reducible refine ep ?_ | with_reducible refine en ?_))
 by_cases c : bl (V l) ≤ b
 ·have ew : wrap64 (((bl (V l) : Nat) : Int) - (b : Int)) ≤ 0 := by unfold wrap64; omega
  refine ze ew ?_
  refine zg (Ev.now _) ?_
  have e0 : bl (V l) - b = 0 := by omega
  rw [e0, Nat.pow_zero, Nat.div_one, Nat.mod_one, show e + ((0 : Nat) : Int) = e by omega, zdM h]
  rfl
 ·have ew : wrap64 (((bl (V l) : Nat) : Int) - (b : Int)) = ((bl (V l) - b : Nat) : Int) := by unfold wrap64; omega
  rw [ew]
  clear ew
  have hn : bl (V l) - b < 1000000000 := by omega
  (repeat (first | with_reducible refine ep ?_ | with_reducible refine en ?_))
  generalize bl (V l) - b = n at *
  have hd : (D (V l / 2 ^ n)).length ≤ l.length := zbs (Nat.lt_of_le_of_lt (Nat.div_le_self _ _) (zbt h.nm.dg))
  have f0 := zbR s (zo (V l / 2 ^ n)) (by omega) (e := e + (n : Int)) (by omega) (by omega)
  rw [V_D] at f0
  rw [zeq (by omega) (by omega) (by omega)]
  refine Ev.bind (zf2 h.nm (by omega) n hn) ?_
  (repeat (first | with_reducible refine ep ?_ | with_reducible refine en ?_))
  refine Ev.bind f0 ?_
  (repeat (first | with_reducible refine ep ?_ | with_reducible refine en ?_))
  exact Ev.now _
theorem zkR {n : Int} (h1 : -9223372036854775808 ≤ n) (h2 : n < 0) : IntKind.u64.wrap (-(IntKind.u64.wrap n)) = ((-n).toNat : Int) := by
 rw [zbG, zbG]; omega
theorem zlu {n : Int} (h1 : -9223372036854775808 ≤ n) (h2 : n < 9223372036854775808) : Ev (fun k => zaa.f k n) (mk n 0) := by
 unfold zaa.f
 have hlen : ∀ m : Nat, m < 18446744073709551616 → (D m).length < 10000000 := fun m hm => by
  have : (D m).length ≤ 2 := zbs (by omega)
  omega
 by_cases c : n < 0
 ·rw [zkR h1 c]
  have o1 := ze2 (n := ((-n).toNat : Int)) (by omega) (by omega)
  rw [Int.toNat_natCast] at o1
  have f1 := zbR (decide (n < 0)) (zo (-n).toNat) (hlen _ (by omega)) (e := 0) (by omega) (by omega)
  rw [V_D, decide_eq_true c] at f1
  have e1 : sv true (-n).toNat = n := by unfold sv; rw [if_pos rfl]; omega
  rw [e1] at f1
  refine ze c ?_
  refine zh ?_
  simp only [zaa.j0]
  rw [decide_eq_true c]
  refine Ev.bind o1 ?_
  (repeat (first | with_reducible refine ep ?_ | with_reducible refine en ?_))
  refine Ev.bind f1 ?_
  (repeat (first | with_reducible refine ep ?_ | with_reducible refine en ?_))
  exact Ev.now _
 ·have e0 : IntKind.u64.wrap n = (n.toNat : Int) := by rw [zbG]; omega
  rw [e0]
  have o1 := ze2 (n := (n.toNat : Int)) (by omega) (by omega)
  rw [Int.toNat_natCast] at o1
  have f1 := zbR (decide (n < 0)) (zo n.toNat) (hlen _ (by omega)) (e := 0) (by omega) (by omega)
  rw [V_D, decide_eq_false c] at f1
  have e1 : sv false n.toNat = n := by unfold sv; rw [if_neg (by simp)]; omega
  rw [e1] at f1
  refine zf c ?_
  refine zh ?_
  simp only [zaa.j0]
  rw [decide_eq_false c]
  refine Ev.bind o1 ?_
  (repeat (first | with_reducible refine ep ?_ | with_reducible refine en ?_))
  refine Ev.bind f1 ?_
  (repeat (first | with_reducible refine ep ?_ | with_reducible refine en ?_))
  exact Ev.now _
theorem zjd (X : Nat) (hX : X < 4294967296) : Go.bits .and .u32 (X : Int) 1 = ((X % 2 : Nat) : Int) := by
 have h1 : (BitVec.ofInt 32 (X : Int)).toNat = X := by
  rw [BitVec.ofInt_natCast, BitVec.toNat_ofNat]; exact Nat.mod_eq_of_lt (by omega)
 show IntKind.u32.wrap ((BitVec.ofInt 32 (X : Int) &&& BitVec.ofInt 32 1).toNat : Int) = _
 have h2 : (BitVec.ofInt 32 (1 : Int)).toNat = 1 := by decide
 have h3 : ∀ n : Int, IntKind.u32.wrap n = n % 4294967296 := fun n => by simp [IntKind.wrap, IntKind.signed, IntKind.bits]
 rw [BitVec.toNat_and, h1, h2, h3, Nat.and_one_is_mod]
 omega
theorem zhj {l : List Int} (h : Dg l) : Go.bits .and .u32 (rd l 0) 1 = ((V l % 2 : Nat) : Int) := by
 have h1 := h.getD 0
 have h2 := zgx h 0
 rw [Nat.pow_zero, Nat.div_one] at h2
 have h3 : rd l 0 = l.getD 0 0 := rdn l 0
 rw [h3]
 obtain ⟨x, hx⟩ := Int.eq_ofNat_of_zero_le h1.1
 rw [hx] at h1 h2 ⊢
 rw [zjd x (by omega)]
 rw [Int.toNat_natCast] at h2
 omega
structure My (s : Bool) (l : List Int) (e : Int) : Prop where
 dy : Dy s l e
 len : l.length ≤ 4096
 lo : -16777216 ≤ e
 hi : e ≤ 16777216
theorem zd8 {s : Bool} {l : List Int} {e : Int} (h : My s l e) : zS.f s l e = some true := by
 obtain ⟨hd, hl, h1, h2⟩ := h
 unfold zS.f
 rw [zcJ hd.nm.dg (by omega), Option.bind_some, zaT.2 ⟨hl, hd.nm⟩, if_neg (by simp)]
 by_cases c : l = []
 ·obtain ⟨h3, h4⟩ := hd.none c
  subst c; subst h3; subst h4
  rfl
 ·have ho := hd.odd c
  rw [if_neg (fun h => c (zax.1 h)), if_pos (zdK c), zhj hd.nm.dg, if_pos (by omega)]
  unfold zdf.f
  rw [if_pos h1, decide_eq_true h2]; rfl
theorem zdH (s : Bool) {l : List Int} (e : Int) (h : l.length ≤ 4096) : zbO.f s l e = some (s, l, e) := by
 unfold zbO.f
 rw [if_pos (by omega)]
theorem zfv {s : Bool} {l : List Int} {e : Int} (h : My s l e) : Ev (fun k => za5.f k s l e) (sv s (V l)).sign := by
 unfold za5.f
 refine zi (zd8 h) ?_
 (repeat (first | with_reducible refine ep ?_ | with_reducible refine en ?_))
 refine zh ?_
 simp only [za5.j0]
 by_cases c : l = []
 ·subst c
  (repeat (first | with_reducible refine ep ?_ | with_reducible refine en ?_))
  exact zg (Ev.now _) (by rw [zO, zW]; rfl)
 ·have h1 := h.dy.odd c
  have h0 : V l ≠ 0 := by omega
  refine zf (by simpa using fun e => c e) ?_
  rw [zb9 h0]
  by_cases hs : s = true
  ·refine ze hs ?_
   exact zg (Ev.now _) (if_pos hs).symm
  ·refine zf hs ?_
   exact zg (Ev.now _) (if_neg hs).symm
theorem zfw {s : Bool} {l : List Int} {e : Int} (h : My s l e) : Ev (fun k => zcf.f k s l e) (top (sv s (V l)) e) := by
 have hb := zaM h.dy.nm.dg
 have hl := h.len
 have e1 := h.lo
 have e2 := h.hi
 unfold zcf.f top
 refine zi (zd8 h) ?_
 (repeat (first | with_reducible refine ep ?_ | with_reducible refine en ?_))
 by_cases c : l = []
 ·subst c
  (repeat (first | with_reducible refine ep ?_ | with_reducible refine en ?_))
  exact zg (Ev.now _) (by rw [zO, zW]; rfl)
 ·have h1 := h.dy.odd c
  have h0 : V l ≠ 0 := by omega
  refine zf (fun h => c (zax.1 h)) (Ev.bind (zcI h.dy.nm hl) (zg (Ev.now _) ?_))
  rw [if_neg (fun h => h0 (zbb.1 h)), zaz, zeq (by omega) (by omega) (by omega)]
theorem zkz {s : Bool} {n : Nat} {e : Int} (h1 : -16777216 ≤ e) (h2 : e + (bl n : Nat) ≤ 16777216) : zef s n e = ((mk (sv s n) e).1, (mk (sv s n) e).2.1, (mk (sv s n) e).2.2, 0) := by
 unfold zef
 by_cases h0 : n = 0
 ·rw [if_pos h0, h0, zW]; rfl
 ·have := zdk h0
  rw [if_neg h0, if_neg (by omega), if_neg (by omega)]
theorem zdG {sa sb : Bool} {la lb : List Int} {ea eb : Int} (ha : My sa la ea) (hb : My sb lb eb) : Ev (fun k => zap.f k [(sa, la, ea), (sb, lb, eb)]) true := by
 unfold zap.f
 have e1 : wrap64 (0 + 1) = 1 := by rw [za0 (by omega) (by omega)]; rfl
 have e2 : wrap64 (1 + 1) = 2 := by rw [za0 (by omega) (by omega)]; rfl
 have el : (([(sa, la, ea), (sb, lb, eb)] : List (Bool × List Int × Int)).length : Int) = 2 := rfl
 have r0 : rdT [.b, .is .u32, .i .i64] [(sa, la, ea), (sb, lb, eb)] 0 = ⟨sa, la, ea⟩ := rfl
 have r1 : rdT [.b, .is .u32, .i .i64] [(sa, la, ea), (sb, lb, eb)] 1 = ⟨sb, lb, eb⟩ := rfl
 refine zh ?_
 simp only [zap.l0, el, e1, e2, r0]
 (repeat (first | with_reducible refine ep ?_ | with_reducible refine en ?_))
 refine zi (zd8 ha) ?_
 (repeat (first | with_reducible refine ep ?_ | with_reducible refine en ?_))
 refine zh ?_
 simp only [zap.l0, el, e1, e2, r1]
 (repeat (first | with_reducible refine ep ?_ | with_reducible refine en ?_))
 refine zi (zd8 hb) ?_
 (repeat (first | with_reducible refine ep ?_ | with_reducible refine en ?_))
 refine zh ?_
 simp only [zap.l0, el, e1, e2]
 (repeat (first | with_reducible refine ep ?_ | with_reducible refine en ?_))
 exact Ev.now _
def ok3 (d : Bool × List Int × Int) : Bool × List Int × Int × Int := (d.1, d.2.1, d.2.2, 0)
theorem zdl {s : Bool} {n : Nat} {e : Int} (h1 : -16777216 ≤ e) (h2 : e + (bl n : Nat) ≤ 16777216) : zef s n e = ok3 (mk (sv s n) e) := zkz h1 h2
theorem zgO (x y : Nat) : bl (x + y) ≤ max (bl x) (bl y) + 1 := by
 refine zP ?_
 have h1 := zac x
 have h2 := zac y
 have h3 : 2 ^ bl x ≤ 2 ^ max (bl x) (bl y) := Nat.pow_le_pow_right (by omega) (by omega)
 have h4 : 2 ^ bl y ≤ 2 ^ max (bl x) (bl y) := Nat.pow_le_pow_right (by omega) (by omega)
 rw [Nat.pow_succ]
 omega
theorem zgS {n : Nat} (h : bl n ≤ 131072) : zbw n = (D n, 0) := by
 have : (D n).length ≤ 4096 := zaj (by omega)
 unfold zbw
 rw [if_neg (by omega)]
theorem zfx (p q : Bool) (x y : Nat) {e : Int} (hx : bl x ≤ 131000) (hy : bl y ≤ 131000) (h1 : -16000000 ≤ e) (h2 : e ≤ 16000000) : Ev (fun k => zbl.f k p (D x) q (D y) e) (ok3 (mk (sv p x + sv q y) e)) := by
 have lx : (D x).length ≤ 4096 := zaj (by omega)
 have ly : (D y).length ≤ 4096 := zaj (by omega)
 unfold zbl.f
 by_cases hs : p = q
 ·subst hs
  have hb := zgO x y
  have a1 := zkK (zo x) (zo y) lx ly
  rw [V_D, V_D, zgS (by omega)] at a1
  have m1 := zdd p (zo (x + y)) (zaj (by omega)) e
  rw [V_D, zdl (by omega) (by omega), ← zit] at m1
  (repeat (first | with_reducible refine ep ?_ | with_reducible refine en ?_))
  refine Ev.bind a1 ?_
  (repeat (first | with_reducible refine ep ?_ | with_reducible refine en ?_))
  refine Ev.bind m1 ?_
  (repeat (first | with_reducible refine ep ?_ | with_reducible refine en ?_))
  exact Ev.now _
 ·refine zf (by simpa using hs) ?_
  have c1 := zeT (zo x) (zo y) lx ly
  rw [V_D, V_D] at c1
  refine Ev.bind c1 ?_
  (repeat (first | with_reducible refine ep ?_ | with_reducible refine en ?_))
  by_cases hc : x < y
  ·have s1 := zhv (zo y) (zo x) ly lx
   rw [V_D, V_D, show zdU y x = (D (y - x), 0) by unfold zdU; rw [if_neg (by omega)]] at s1
   have hb := zbu (show y - x ≤ y by omega)
   have m1 := zdd q (zo (y - x)) (zaj (by omega)) e
   rw [V_D, zdl (by omega) (by omega), ← zfb (fun h => hs h.symm) (by omega), Int.add_comm] at m1
   refine ze (zgX.2 hc) ?_
   refine zh ?_
   simp only [zbl.j2]
   refine Ev.bind s1 ?_
   (repeat (first | with_reducible refine ep ?_ | with_reducible refine en ?_))
   refine Ev.bind m1 ?_
   (repeat (first | with_reducible refine ep ?_ | with_reducible refine en ?_))
   exact Ev.now _
  ·have s1 := zhv (zo x) (zo y) lx ly
   rw [V_D, V_D, show zdU x y = (D (x - y), 0) by unfold zdU; rw [if_neg (by omega)]] at s1
   have hb := zbu (show x - y ≤ x by omega)
   have m1 := zdd p (zo (x - y)) (zaj (by omega)) e
   rw [V_D, zdl (by omega) (by omega), ← zfb hs (by omega)] at m1
   refine zf (fun h => hc (zgX.1 h)) ?_
   refine zh ?_
   simp only [zbl.j2]
   refine Ev.bind s1 ?_
   (repeat (first | with_reducible refine ep ?_ | with_reducible refine en ?_))
   refine Ev.bind m1 ?_
   (repeat (first | with_reducible refine ep ?_ | with_reducible refine en ?_))
   exact Ev.now _
structure Sm (s : Bool) (l : List Int) (e : Int) : Prop where
 dy : Dy s l e
 len : l.length ≤ 1000
 lo : -40000 ≤ e
 hi : e ≤ 40000
theorem Sm.my {s : Bool} {l : List Int} {e : Int} (h : Sm s l e) : My s l e := ⟨h.dy, Nat.le_trans h.len (by omega), by have := h.lo; omega, by have := h.hi; omega⟩
theorem zeU {s : Bool} {l : List Int} {e : Int} (h : Dy s l e) : ok3 (mk (sv s (V l)) e) = (s, l, e, 0) := by rw [zdM h]; rfl
theorem ziI {e m : Int} (h1 : -40000 ≤ e) (h2 : e ≤ 40000) (h3 : -40000 ≤ m) (h4 : m ≤ 40000) (h : m ≤ e) : wrap64 (e - m) = ((e - m).toNat : Int) := by unfold wrap64; omega
theorem ziJ {n b : Nat} (hn : n ≤ 80000) (hb : b ≤ 32000) : wrap64 ((n : Int) + (b : Int)) = ((n + b : Nat) : Int) := by unfold wrap64; omega
theorem zg7 {sa sb : Bool} {la lb : List Int} {ea eb : Int} (ha : Sm sa la ea) (hb : Sm sb lb eb) : Ev (fun k => zav.f k sa la ea sb lb eb) (ok3 (zl (sv sa (V la)) ea (sv sb (V lb)) eb)) := by
 obtain ⟨da, l1, a1, a2⟩ := ha
 obtain ⟨db, l2, b1, b2⟩ := hb
 have ba := zaM da.nm.dg
 have bb := zaM db.nm.dg
 unfold zav.f
 by_cases c : la = []
 ·subst c
  (repeat (first | with_reducible refine ep ?_ | with_reducible refine en ?_))
  refine zi (zdH sb eb (by omega)) ?_
  (repeat (first | with_reducible refine ep ?_ | with_reducible refine en ?_))
  refine zg (Ev.now _) ?_
  rw [zO, zW, zdz, zeU db]
 refine zf (fun h => c (zax.1 h)) ?_
 by_cases c2 : lb = []
 ·subst c2
  (repeat (first | with_reducible refine ep ?_ | with_reducible refine en ?_))
  refine zi (zdH sa ea (by omega)) ?_
  (repeat (first | with_reducible refine ep ?_ | with_reducible refine en ?_))
  refine zg (Ev.now _) ?_
  rw [zO, zW, zfk, zeU da]
 refine zf (fun h => c2 (zax.1 h)) ?_
 by_cases c3 : ea < eb
 ·have hw := ziI (e := eb) (m := ea) b1 b2 a1 a2 (by omega)
  have hn : (eb - ea).toNat ≤ 80000 := by omega
  have e0 : zl (sv sa (V la)) ea (sv sb (V lb)) eb = mk (sv sb (V lb * 2 ^ (eb - ea).toNat) + sv sa (V la)) ea := by
   rw [← zcn (m := ea) (by omega) (by omega), za1, za1, Int.sub_self, Int.add_comm]
   show mk (_ + sv sa (V la * 2 ^ 0)) ea = _
   rw [Nat.pow_zero, Nat.mul_one]
  rw [e0]
  generalize (eb - ea).toNat = n at *
  have hu := zbX (V lb) n
  have hs := zdn db.nm (by omega) (n : Int)
  rw [zdT (by omega)] at hs
  have j1 := zfx sb sa (V lb * 2 ^ n) (V la) (e := ea) (by omega) (by omega) (by omega) (by omega)
  rw [da.nm] at j1
  have hl := zcI db.nm (by omega)
  have hw3 := ziJ (n := n) (b := bl (V lb)) hn (by omega)
  refine ze c3 ?_
  refine zh ?_
  simp only [zav.j1, hw]
  refine Ev.bind hl ?_
  (repeat (first | with_reducible refine ep ?_ | with_reducible refine en ?_))
  refine Ev.bind hl ?_
  (repeat (first | with_reducible refine ep ?_ | with_reducible refine en ?_))
  refine Ev.bind hs ?_
  (repeat (first | with_reducible refine ep ?_ | with_reducible refine en ?_))
  refine Ev.bind j1 ?_
  (repeat (first | with_reducible refine ep ?_ | with_reducible refine en ?_))
  exact Ev.now _
 ·have hw := ziI (e := ea) (m := eb) a1 a2 b1 b2 (by omega)
  have hn : (ea - eb).toNat ≤ 80000 := by omega
  have e0 : zl (sv sa (V la)) ea (sv sb (V lb)) eb = mk (sv sa (V la * 2 ^ (ea - eb).toNat) + sv sb (V lb)) eb := by
   rw [← zcn (m := eb) (by omega) (by omega), za1, za1, Int.sub_self]
   show mk (_ + sv sb (V lb * 2 ^ 0)) eb = _
   rw [Nat.pow_zero, Nat.mul_one]
  rw [e0]
  generalize (ea - eb).toNat = n at *
  have hu := zbX (V la) n
  have hs := zdn da.nm (by omega) (n : Int)
  rw [zdT (by omega)] at hs
  have j1 := zfx sa sb (V la * 2 ^ n) (V lb) (e := eb) (by omega) (by omega) (by omega) (by omega)
  rw [db.nm] at j1
  have hl := zcI da.nm (by omega)
  have hw3 := ziJ (n := n) (b := bl (V la)) hn (by omega)
  refine zf c3 ?_
  refine zh ?_
  simp only [zav.j1, hw]
  refine Ev.bind hl ?_
  (repeat (first | with_reducible refine ep ?_ | with_reducible refine en ?_))
  refine Ev.bind hl ?_
  (repeat (first | with_reducible refine ep ?_ | with_reducible refine en ?_))
  refine Ev.bind hs ?_
  (repeat (first | with_reducible refine ep ?_ | with_reducible refine en ?_))
  refine Ev.bind j1 ?_
  (repeat (first | with_reducible refine ep ?_ | with_reducible refine en ?_))
  exact Ev.now _
theorem zjK {sa sb : Bool} {la lb : List Int} {ea eb : Int} (ha : Sm sa la ea) (hb : Sm sb lb eb) : Ev (fun k => zb2.f k sa la ea sb lb eb) (ok3 (zl (sv sa (V la)) ea (sv sb (V lb)) eb)) := by
 unfold zb2.f
 refine Ev.bind (zdG ha.my hb.my) ?_
 (repeat (first | with_reducible refine ep ?_ | with_reducible refine en ?_))
 refine Ev.bind (zg7 ha hb) ?_
 (repeat (first | with_reducible refine ep ?_ | with_reducible refine en ?_))
 exact Ev.now _
theorem zg9 {s : Bool} {l : List Int} {e : Int} (h : Dy s l e) (hl : l.length ≤ 4096) : zdI.f s l e (!s) = some (mk (-(sv s (V l))) e) := by
 unfold zdI.f
 rw [zdH s e hl, Option.bind_some]
 by_cases c : l = []
 ·obtain ⟨h1, h2⟩ := h.none c
  subst c; subst h1; subst h2
  rfl
 ·have h1 := h.odd c
  have h0 : V l ≠ 0 := by omega
  rw [← zfa, zcD _ h0, zcC h1, Nat.pow_zero, Nat.div_one, h.nm]
  have hp := zdK c
  cases s
  ·simp
   omega
  ·simp
theorem zfg {s : Bool} {l : List Int} {e : Int} (h : Dy s l e) : (mk (-(sv s (V l))) e).2.1 = l ∧ sv (mk (-(sv s (V l))) e).1 (V l) = -(sv s (V l)) ∧ (mk (-(sv s (V l))) e).2.2 = e := by
 by_cases c : l = []
 ·obtain ⟨h1, h2⟩ := h.none c
  subst c; subst h1; subst h2
  exact ⟨rfl, by rw [zO, zW, zW]; rfl, rfl⟩
 ·have h3 := h.odd c
  have h0 : V l ≠ 0 := by omega
  rw [← zfa, zcD _ h0, zcC h3, Nat.pow_zero, Nat.div_one, h.nm]
  exact ⟨rfl, rfl, by simp⟩
theorem zjO {sa sb : Bool} {la lb : List Int} {ea eb : Int} (ha : Sm sa la ea) (hb : Sm sb lb eb) : Ev (fun k => zb4.f k sa la ea sb lb eb) (ok3 (zl (sv sa (V la)) ea (-(sv sb (V lb))) eb)) := by
 unfold zb4.f
 have hv := zfg hb.dy
 have hd := zH (-(sv sb (V lb))) eb
 rw [hv.1, hv.2.2] at hd
 have hn : Sm (mk (-(sv sb (V lb))) eb).1 lb eb := ⟨hd, hb.len, hb.lo, hb.hi⟩
 have h1 := zg7 ha hn
 rw [hv.2.1] at h1
 refine Ev.bind (zdG ha.my hb.my) ?_
 (repeat (first | with_reducible refine ep ?_ | with_reducible refine en ?_))
 refine zi (zg9 hb.dy (Nat.le_trans hb.len (by omega))) ?_
 (repeat (first | with_reducible refine ep ?_ | with_reducible refine en ?_))
 simp only [hv.1, hv.2.2]
 refine Ev.bind h1 ?_
 (repeat (first | with_reducible refine ep ?_ | with_reducible refine en ?_))
 exact Ev.now _
theorem zg6 {s : Bool} {l : List Int} {e n : Int} (h : My s l e) (hn : -1000000000000 ≤ n ∧ n ≤ 1000000000000) (h1 : -16777216 ≤ e + n) (h2 : e + n ≤ 16777216) : zb3.f s l e n = some (ok3 (mk (sv s (V l)) (e + n))) := by
 have lo := h.lo
 have hi := h.hi
 unfold zb3.f
 rw [zd8 h, Option.bind_some, if_neg (by simp)]
 by_cases c : l = []
 ·subst c
  rw [if_pos (zax.2 rfl), zO, zW]; rfl
 ·have ho := h.dy.odd c
  have h0 : V l ≠ 0 := by omega
  have e1 : wrap64 (16777216 - e) = 16777216 - e := by unfold wrap64; omega
  have e2 : wrap64 (-16777216 - e) = -16777216 - e := by unfold wrap64; omega
  have e3 : wrap64 (e + n) = e + n := by unfold wrap64; omega
  rw [if_neg (fun h => c (zax.1 h)), e1, e2, if_neg (by omega), if_neg (by omega), zdH s e h.len, Option.bind_some, e3]
  rw [zcD _ h0, zcC ho, Nat.pow_zero, Nat.div_one, h.dy.nm]
  simp [ok3]
theorem zgY (x y : Nat) : z5 x y = ((x : Int) - (y : Int)).sign := by
 rw [zfs]
 unfold z5
 rcases Nat.lt_trichotomy x y with h | h | h
 ·rw [if_pos h, if_pos (show (x : Int) < (y : Int) by omega)]
 ·subst h; simp
 ·rw [if_neg (show ¬ x < y by omega), if_pos h, if_neg (show ¬ (x : Int) < (y : Int) by omega), if_pos (show (y : Int) < (x : Int) by omega)]
theorem zd0 {za ea zb eb m : Int} (h1 : m ≤ ea) (h2 : m ≤ eb) : (al za ea m - al zb eb m).sign = zp za ea zb eb := by
 unfold zp
 have h3 : m ≤ min ea eb := by omega
 rw [← zdA (z := za) (e := ea) (m := min ea eb) (n := m) (by omega) h3, ← zdA (z := zb) (e := eb) (m := min ea eb) (n := m) (by omega) h3]
 generalize al za ea (min ea eb) = x
 generalize al zb eb (min ea eb) = y
 have e : al x (min ea eb) m - al y (min ea eb) m = al (x - y) (min ea eb) m := by unfold al; rw [Int.sub_mul]
 rw [e, zaE]
theorem zeC (n : Nat) (e m : Int) : al (n : Int) e m = ((n * 2 ^ (e - m).toNat : Nat) : Int) := by
 unfold al
 rw [Int.natCast_mul, Int.natCast_pow]; rfl
theorem zgt {s : Bool} {e : Int} (h : Dy s [] e) : s = false ∧ e = 0 := h.none rfl
theorem zjR : Ev (fun k => zaS.f k false [] 0 false [] 0) 0 := by
 have hd : Dy false [] 0 := ⟨zcm, fun _ => ⟨rfl, rfl⟩, fun h => absurd rfl h⟩
 have hm : My false [] 0 := ⟨hd, by simp, by omega, by omega⟩
 have ht := zfw hm
 have et : top (sv false (V [])) 0 = 0 := rfl
 rw [et] at ht
 have hn := zcI zcm (by simp : ([] : List Int).length ≤ 4096)
 have hs := zdn zcm (by simp : ([] : List Int).length ≤ 4096) 0
 have es : zcQ (V []) 0 = ([], false, 0) := rfl
 rw [es] at hs
 have hc := zeT zcm zcm (by simp) (by simp)
 have ec : z5 (V []) (V []) = 0 := rfl
 rw [ec] at hc
 have w0 : wrap64 (((bl (V []) : Nat) : Int) - ((bl (V []) : Nat) : Int)) = 0 := by rw [Int.sub_self, za0 (by omega) (by omega)]
 have w1 : wrap64 (-0) = 0 := by rw [Int.neg_zero, za0 (by omega) (by omega)]
 unfold zaS.f
 refine Ev.bind ht ?_
 (repeat (first | with_reducible refine ep ?_ | with_reducible refine en ?_))
 refine Ev.bind ht ?_
 (repeat (first | with_reducible refine ep ?_ | with_reducible refine en ?_))
 refine Ev.bind ht ?_
 (repeat (first | with_reducible refine ep ?_ | with_reducible refine en ?_))
 refine Ev.bind ht ?_
 (repeat (first | with_reducible refine ep ?_ | with_reducible refine en ?_))
 refine Ev.bind hn ?_
 (repeat (first | with_reducible refine ep ?_ | with_reducible refine en ?_))
 refine Ev.bind hn ?_
 (repeat (first | with_reducible refine ep ?_ | with_reducible refine en ?_))
 rw [w0, w1]
 (repeat (first | with_reducible refine ep ?_ | with_reducible refine en ?_))
 refine Ev.bind hs ?_
 (repeat (first | with_reducible refine ep ?_ | with_reducible refine en ?_))
 refine zh ?_
 simp only [zaS.j1]
 refine Ev.bind hc ?_
 (repeat (first | with_reducible refine ep ?_ | with_reducible refine en ?_))
 exact Ev.now _
theorem zfl (z e m : Int) : al (-z) e m = -(al z e m) := by unfold al; rw [Int.neg_mul]
theorem zjv (x ea y eb : Int) : zp (-x) ea (-y) eb = -(zp x ea y eb) := by
 unfold zp
 rw [zfl, zfl, ← Int.sign_neg]
 congr 1
 omega
theorem zjy (s : Bool) (x y : Nat) (ea eb : Int) (hx : x ≠ 0) : (sv s x).sign * zp (x : Int) ea (y : Int) eb = zp (sv s x) ea (sv s y) eb := by
 rw [zb9 hx]
 cases s
 ·simp [sv]
 ·simp only [sv, if_true]
  rw [zjv]
  omega
theorem zjw (za ea zb eb : Int) : zp za ea zb eb = -1 ∨ zp za ea zb eb = 0 ∨ zp za ea zb eb = 1 := by
 unfold zp
 rcases zaZ (al za ea (min ea eb) - al zb eb (min ea eb)) with ⟨_, h⟩ | ⟨_, h⟩ | ⟨_, h⟩
 ·exact .inl h
 ·exact .inr (.inl h)
 ·exact .inr (.inr h)
theorem zdC (n : Nat) (h : n < 18446744073709551616) : (BitVec.ofInt 64 (n : Int)).toNat = n := by
 rw [BitVec.ofInt_natCast, BitVec.toNat_ofNat]; exact Nat.mod_eq_of_lt (by omega)
theorem zgL (a b : Nat) (ha : a < 18446744073709551616) (hb : b < 18446744073709551616) : Go.bits .and .u64 (a : Int) (b : Int) = ((a &&& b : Nat) : Int) := by
 show IntKind.u64.wrap ((BitVec.ofInt 64 (a : Int) &&& BitVec.ofInt 64 (b : Int)).toNat : Int) = _
 have hx : a &&& b < 2 ^ 64 := Nat.and_lt_two_pow _ (by omega)
 rw [BitVec.toNat_and, zdC a ha, zdC b hb, zbG]
 omega
theorem zei (a b : Nat) (ha : a < 18446744073709551616) (hb : b < 18446744073709551616) : Go.bits .or .u64 (a : Int) (b : Int) = ((a ||| b : Nat) : Int) := by
 show IntKind.u64.wrap ((BitVec.ofInt 64 (a : Int) ||| BitVec.ofInt 64 (b : Int)).toNat : Int) = _
 have hx : a ||| b < 2 ^ 64 := Nat.or_lt_two_pow (by omega) (by omega)
 rw [BitVec.toNat_or, zdC a ha, zdC b hb, zbG]
 omega
theorem zja (a b : Nat) (ha : a < 18446744073709551616) (hb : b < 18446744073709551616) : Go.bits .andNot .u64 (a : Int) (b : Int) = ((a &&& (18446744073709551616 - 1 - b) : Nat) : Int) := by
 show IntKind.u64.wrap ((BitVec.ofInt 64 (a : Int) &&& ~~~(BitVec.ofInt 64 (b : Int))).toNat : Int) = _
 have hx : a &&& (18446744073709551616 - 1 - b) < 2 ^ 64 := Nat.and_lt_two_pow _ (by omega)
 rw [BitVec.toNat_and, BitVec.toNat_not, zdC a ha, zdC b hb, zbG]
 have e : 2 ^ 64 - 1 - b = 18446744073709551616 - 1 - b := by omega
 rw [e]
 omega
theorem zjc (a k : Nat) (ha : a < 18446744073709551616) (hk : k ≤ 63) : Go.bits .and .u64 (a : Int) ((2 ^ k - 1 : Nat) : Int) = ((a % 2 ^ k : Nat) : Int) := by
 have h1 : 2 ^ k ≤ 2 ^ 63 := Nat.pow_le_pow_right (by omega) hk
 rw [zgL a _ ha (by omega), Nat.and_two_pow_sub_one_eq_mod]
theorem zjb (w k : Nat) (hk : k ≤ 63) (hw : w < 2 ^ (k + 1)) : Go.bits .andNot .u64 (w : Int) ((2 ^ k : Nat) : Int) = ((w % 2 ^ k : Nat) : Int) := by
 have h1 : 2 ^ k ≤ 2 ^ 63 := Nat.pow_le_pow_right (by omega) hk
 have h2 : 2 ^ (k + 1) ≤ 2 ^ 64 := Nat.pow_le_pow_right (by omega) (by omega)
 rw [zja w _ (by omega) (by omega)]
 congr 1
 apply Nat.eq_of_testBit_eq
 intro i
 have e : 18446744073709551616 - 1 - 2 ^ k = 2 ^ 64 - (2 ^ k + 1) := by omega
 rw [Nat.testBit_and, Nat.testBit_mod_two_pow, e, Nat.testBit_two_pow_sub_succ (by omega), Nat.testBit_two_pow]
 rcases Nat.lt_trichotomy i k with h | h | h
 ·have h3 : i < 64 := by omega
  have h4 : ¬ k = i := by omega
  simp [h, h3, h4]
 ·subst h; simp
 ·have h3 : w.testBit i = false := Nat.testBit_lt_two_pow (Nat.lt_of_lt_of_le hw (Nat.pow_le_pow_right (by omega) (by omega)))
  have h4 : ¬ i < k := by omega
  simp [h3, h4]
theorem zje (w k : Nat) (hk : k ≤ 63) (hw : w < 2 ^ (k + 1)) : Go.bits .and .u64 (w : Int) ((2 ^ k : Nat) : Int) = ((w / 2 ^ k * 2 ^ k : Nat) : Int) := by
 have h1 : 2 ^ k ≤ 2 ^ 63 := Nat.pow_le_pow_right (by omega) hk
 have h2 : 2 ^ (k + 1) ≤ 2 ^ 64 := Nat.pow_le_pow_right (by omega) (by omega)
 rw [zgL w _ (by omega) (by omega)]
 congr 1
 apply Nat.eq_of_testBit_eq
 intro i
 rw [Nat.testBit_and, Nat.testBit_two_pow, Nat.testBit_mul_two_pow, Nat.testBit_div_two_pow]
 rcases Nat.lt_trichotomy i k with h | h | h
 ·have h3 : ¬ k = i := by omega
  have h4 : ¬ k ≤ i := by omega
  simp [h3, h4]
 ·subst h; simp
 ·have h3 : w.testBit i = false := Nat.testBit_lt_two_pow (Nat.lt_of_lt_of_le hw (Nat.pow_le_pow_right (by omega) (by omega)))
  have h4 : ¬ k = i := by omega
  have h5 : i - k + k = i := by omega
  simp [h3, h4, h5]
theorem zkW (a b k : Nat) (hb : b < 2 ^ k) (h : a * 2 ^ k + b < 18446744073709551616) : Go.bits .or .u64 ((a * 2 ^ k : Nat) : Int) (b : Int) = ((a * 2 ^ k + b : Nat) : Int) := by
 rw [zei _ _ (by omega) (by omega)]
 congr 1
 rw [Nat.mul_comm]
 exact (Nat.two_pow_add_eq_or_of_lt hb a).symm
theorem zkT (a b : Nat) (ha : a < 18446744073709551616) (hb : b < 18446744073709551616) : Go.bits .or .u64 (a : Int) (b : Int) = Go.bits .or .u64 (b : Int) (a : Int) := by
 rw [zei a b ha hb, zei b a hb ha, Nat.or_comm]
def isF (f : Int) : Prop := f = 1 ∨ f = 2
def fb (f : Int) : Nat := if f = 1 then 23 else 52
def mo (f : Int) : Nat := if f = 1 then 255 else 2047
def sk (f : Int) : Nat := if f = 1 then 31 else 63
def sg (f : Int) : Nat := if f = 1 then 2147483648 else 9223372036854775808
theorem zlP {f : Int} (h : isF f) : zes.f f = some ((fb f : Int), (mo f : Int), (sg f : Int), true) := by
 rcases h with rfl | rfl <;> rfl
theorem zkH {f : Int} (h : isF f) : Go.bits .or .u64 (sg f : Int) (IntKind.u64.wrap ((sg f : Int) - 1)) = ((2 * sg f - 1 : Nat) : Int) := by
 rcases h with rfl | rfl
 ·have e : IntKind.u64.wrap (((sg 1 : Nat) : Int) - 1) = ((2147483647 : Nat) : Int) := by rw [zbG]; rfl
  rw [e, zei _ _ (by decide) (by decide)]; rfl
 ·have e : IntKind.u64.wrap (((sg 2 : Nat) : Int) - 1) = ((9223372036854775807 : Nat) : Int) := by rw [zbG]; rfl
  rw [e, zei _ _ (by decide) (by decide)]; rfl
theorem zbT {f : Int} (h : isF f) : 0 < sg f ∧ 2 * sg f ≤ 18446744073709551616 := by rcases h with rfl | rfl <;> decide
theorem zii {f : Int} (h : isF f) : sg f = 2 ^ sk f := by rcases h with rfl | rfl <;> decide
theorem zin {f : Int} (h : isF f) : sk f ≤ 63 := by rcases h with rfl | rfl <;> decide
def zbF (f : Int) (w : Nat) : Int := if w < 2 * sg f then 0 else 6
theorem zgm {f : Int} (h : isF f) (w : Nat) : Ev (fun k => zaL.f k f [(w : Int)]) ((fb f : Int), (mo f : Int), (sg f : Int), zbF f w) := by
 have hp := zbT h
 unfold zaL.f zbF
 have e1 : wrap64 (0 + 1) = 1 := by rw [za0 (by omega) (by omega)]; rfl
 have el : (([(w : Int)] : List Int).length : Int) = 1 := rfl
 have er : rd [(w : Int)] 0 = (w : Int) := rfl
 refine zi (zlP h) ?_
 (repeat (first | with_reducible refine ep ?_ | with_reducible refine en ?_))
 refine zh ?_
 simp only [zaL.l0, el, e1, er, zkH h]
 (repeat (first | with_reducible refine ep ?_ | with_reducible refine en ?_))
 by_cases c : w < 2 * sg f
 ·rw [if_pos c]
  (repeat (first | with_reducible refine ep ?_ | with_reducible refine en ?_))
  refine zh ?_
  simp only [zaL.l0, el]
  (repeat (first | with_reducible refine ep ?_ | with_reducible refine en ?_))
  exact Ev.now _
 ·rw [if_neg c]
  (repeat (first | with_reducible refine ep ?_ | with_reducible refine en ?_))
  exact Ev.now _
theorem zlR {f : Int} (h : isF f) : shl .u64 ((mo f : Nat) : Int) ((fb f : Nat) : Int) = ((mo f * 2 ^ fb f : Nat) : Int) := by
 rcases h with rfl | rfl <;> decide
theorem zkj {f : Int} (h : isF f) : zdv.f (fb f : Int) (mo f : Int) (sg f : Int) = some ((mo f * 2 ^ fb f : Nat) : Int) := by
 unfold zdv.f
 have hm : mo f < 10000 := by rcases h with rfl | rfl <;> decide
 rw [if_pos (by omega), u64 (by omega) (by omega), zlR h]
def cls (f : Int) (w : Nat) : Int :=
 if w % sg f = 0 then 1 else if w % sg f < 2 ^ fb f then 2 else if w % sg f < mo f * 2 ^ fb f then 3 else if w % sg f = mo f * 2 ^ fb f then 4 else 5
theorem zim {f : Int} (h : isF f) {w : Nat} (hw : w < 2 * sg f) : Go.bits .andNot .u64 (w : Int) (sg f : Int) = ((w % sg f : Nat) : Int) := by
 rw [zii h] at hw ⊢
 exact zjb w (sk f) (zin h) (by rw [Nat.pow_succ, Nat.mul_comm]; exact hw)
theorem zdP {f : Int} (h : isF f) : shl .u64 1 ((fb f : Nat) : Int) = ((2 ^ fb f : Nat) : Int) := by rcases h with rfl | rfl <;> decide
theorem zgT {f : Int} (h : isF f) {w : Nat} (hw : w < 2 * sg f) : zcU.f (fb f : Int) (mo f : Int) (sg f : Int) (w : Int) = some (cls f w) := by
 unfold zcU.f cls
 rw [zim h hw, zdP h]
 generalize w % sg f = z
 by_cases c1 : z = 0
 ·rw [if_pos (by omega), if_pos c1]
 rw [if_neg (by omega), if_neg c1, if_pos (by omega)]
 by_cases c2 : z < 2 ^ fb f
 ·rw [if_pos (by omega), if_pos c2]
 rw [if_neg (by omega), if_neg c2, zkj h, Option.bind_some]
 by_cases c3 : z < mo f * 2 ^ fb f
 ·rw [if_pos (by omega), if_pos c3]
 rw [if_neg (by omega), if_neg c3, Option.bind_some]
 by_cases c4 : z = mo f * 2 ^ fb f
 ·rw [if_pos (by omega), if_pos c4]
 ·rw [if_neg (by omega), if_neg c4]
theorem ziQ {f : Int} (h : isF f) {w : Nat} (hw : w < 2 * sg f) : Ev (fun k => zdt.f k f (w : Int)) (cls f w, 0) := by
 have ho := zgm h w
 unfold zbF at ho
 rw [if_pos hw] at ho
 unfold zdt.f
 refine Ev.bind ho ?_
 (repeat (first | with_reducible refine ep ?_ | with_reducible refine en ?_))
 refine zi (zgT h hw) ?_
 (repeat (first | with_reducible refine ep ?_ | with_reducible refine en ?_))
 exact Ev.now _
def z4 (f : Int) (w : Nat) : Bool := decide (sg f ≤ w)
def zJ (f : Int) (w : Nat) : Nat := w % sg f / 2 ^ fb f
def zM (f : Int) (w : Nat) : Nat := w % sg f % 2 ^ fb f
theorem za6 {f : Int} (h : isF f) : fb f ≤ 52 := by rcases h with rfl | rfl <;> decide
theorem zgb {f : Int} (h : isF f) : sg f = 2 ^ fb f * (mo f + 1) := by rcases h with rfl | rfl <;> decide
theorem pfb {f : Int} (h : isF f) : 2 ^ fb f ≤ 4503599627370496 := by rcases h with rfl | rfl <;> decide
theorem zcE {f : Int} (h : isF f) : mo f ≤ 2047 := by rcases h with rfl | rfl <;> decide
theorem zlX {f : Int} (h : isF f) {w : Nat} (hw : w < 2 * sg f) : zcW.f (fb f : Int) (mo f : Int) (sg f : Int) (w : Int) = some (z4 f w, (zJ f w : Int), (zM f w : Int)) := by
 have hp := zbT h
 have hk := zin h
 have h52 := za6 h
 have hpw := pfb h
 have hpp := zk (fb f)
 unfold zcW.f
 rw [zim h hw, zdP h]
 have h1 : Go.bits .and .u64 (w : Int) (sg f : Int) = ((w / sg f * sg f : Nat) : Int) := by
  rw [zii h] at hw ⊢
  exact zje w (sk f) hk (by rw [Nat.pow_succ, Nat.mul_comm]; exact hw)
 have hz : w % sg f < sg f := Nat.mod_lt _ hp.1
 have h2 : IntKind.u64.wrap (((2 ^ fb f : Nat) : Int) - 1) = ((2 ^ fb f - 1 : Nat) : Int) := by rw [zbG]; omega
 have h3 := zjc (w % sg f) (fb f) (by omega) (by omega)
 have h4 : shr .u64 ((w % sg f : Nat) : Int) ((fb f : Nat) : Int) = ((w % sg f / 2 ^ fb f : Nat) : Int) := zcR _ _ (by show fb f ≤ 64; omega)
 have h5 : wrap64 ((w % sg f / 2 ^ fb f : Nat) : Int) = ((w % sg f / 2 ^ fb f : Nat) : Int) := by
  have hq : w % sg f / 2 ^ fb f < mo f + 1 := Nat.div_lt_of_lt_mul (by rw [← zgb h]; exact hz)
  have hm := zcE h
  clear h1 h2 h3 h4
  generalize w % sg f / 2 ^ fb f = q at hq ⊢
  exact za0 (by omega) (by omega)
 rw [h1, h2, h3, h4, h5]
 have h6 : (decide (¬ (((w / sg f * sg f : Nat) : Int) = 0))) = z4 f w := by
  unfold z4
  by_cases c : sg f ≤ w
  ·have : w / sg f = 1 := Nat.div_eq_of_lt_le (by omega) (by omega)
   rw [this, decide_eq_true c]
   exact decide_eq_true (by omega)
  ·rw [Nat.div_eq_of_lt (by omega), decide_eq_false c]
   simp
 rw [h6, if_pos (by omega)]
 rfl
def lo (f : Int) : Int := if f = 1 then -149 else -1074
theorem zhk {f : Int} (h : isF f) : zcV.f (fb f : Int) (mo f : Int) (sg f : Int) = some (lo f) := by
 unfold zcV.f
 have e : wrap64 (Int.tdiv ((mo f : Nat) : Int) 2) = ((mo f / 2 : Nat) : Int) := by
  have := zcE h
  exact za0 (by show (0 : Int) ≤ ((mo f / 2 : Nat) : Int); omega) (by show ((mo f / 2 : Nat) : Int) < _; omega)
 have hm := zcE h
 have hb := za6 h
 rw [e]
 have e2 : wrap64 (1 - ((mo f / 2 : Nat) : Int)) = 1 - ((mo f / 2 : Nat) : Int) := by unfold wrap64; omega
 rw [e2]
 have e3 : wrap64 (1 - ((mo f / 2 : Nat) : Int) - ((fb f : Nat) : Int)) = 1 - ((mo f / 2 : Nat) : Int) - ((fb f : Nat) : Int) := by unfold wrap64; omega
 rw [e3]
 rcases h with rfl | rfl <;> rfl
def zB (f : Int) (w : Nat) : Nat := if zJ f w = 0 then zM f w else 2 ^ fb f + zM f w
def wex (f : Int) (w : Nat) : Int := (if zJ f w = 0 then 0 else (zJ f w : Int) - 1) + lo f
theorem zj0 {f : Int} (h : isF f) {w : Nat} (hw : w < 2 * sg f) : Ev (fun k => zcT.f k f (w : Int)) ((fb f : Int), (mo f : Int), (sg f : Int), if cls f w ≥ 4 then 7 else 0) := by
 have ho := zgm h w
 unfold zbF at ho
 rw [if_pos hw] at ho
 unfold zcT.f
 refine Ev.bind ho ?_
 (repeat (first | with_reducible refine ep ?_ | with_reducible refine en ?_))
 refine zi (zgT h hw) ?_
 (repeat (first | with_reducible refine ep ?_ | with_reducible refine en ?_))
 by_cases c : cls f w ≥ 4
 ·refine ze c ?_
  exact zg (Ev.now _) (by rw [if_pos c])
 ·refine zf c ?_
  exact zg (Ev.now _) (by rw [if_neg c])
theorem mx1 (n : Nat) : (wrap64 ((mx (n : Int) 1) - 1) = if n = 0 then 0 else (n : Int) - 1) ∨ 4611686018427387904 ≤ n := by
 by_cases hb : n < 4611686018427387904
 ·left
  have e : mx (n : Int) 1 = ((max n 1 : Nat) : Int) := zkI n 1
  rw [e, za0 (by omega) (by omega)]
  split <;> omega
 ·right; omega
theorem ziR {f : Int} (h : isF f) {w : Nat} (hw : w < 2 * sg f) (hc : cls f w < 4) : Ev (fun k => zbr.f k f (w : Int)) (ok3 (mk (sv (z4 f w) (zB f w)) (wex f w))) := by
 have hf := zj0 h hw
 rw [if_neg (by omega)] at hf
 have hp := zbT h
 have hz : w % sg f < sg f := Nat.mod_lt _ hp.1
 have he : zJ f w < mo f + 1 := Nat.div_lt_of_lt_mul (by rw [← zgb h]; exact hz)
 have hm := zcE h
 have hfr : zM f w < 2 ^ fb f := Nat.mod_lt _ (zk _)
 have hpw := pfb h
 have h52 := za6 h
 have hlo : -1074 ≤ lo f ∧ lo f ≤ -149 := by rcases h with rfl | rfl <;> decide
 have hmx := (mx1 (zJ f w)).resolve_right (by omega)
 have hbl : ∀ m : Nat, m < 18446744073709551616 → bl m ≤ 64 := fun m hm => zP (by omega)
 unfold zbr.f
 refine Ev.bind hf ?_
 (repeat (first | with_reducible refine ep ?_ | with_reducible refine en ?_))
 refine zi (zlX h hw) ?_
 (repeat (first | with_reducible refine ep ?_ | with_reducible refine en ?_))
 have hex : wrap64 (wrap64 ((mx (zJ f w : Int) 1) - 1) + lo f) = wex f w := by
  rw [hmx]
  unfold wex wrap64
  split <;> omega
 have hwx : -1074 ≤ wex f w ∧ wex f w ≤ 3000 := by unfold wex; split <;> omega
 by_cases c : zJ f w = 0
 ·have hm0 : zB f w = zM f w := by unfold zB; rw [if_pos c]
  have o1 := zfF (n := (zM f w : Int)) (by omega) (by omega)
  rw [Int.toNat_natCast] at o1
  have hb := hbl (zM f w) (by omega)
  have m1 := zdd (z4 f w) (zo (zM f w)) (zaj (by omega)) (wex f w)
  rw [V_D, zdl (by omega) (by omega)] at m1
  dsimp only
  (repeat (first | with_reducible refine ep ?_ | with_reducible refine en ?_))
  refine zh ?_; simp only [zbr.j1]
  refine Ev.bind (o1) ?_; try dsimp only
  refine zi (zhk h) ?_; try dsimp only
  rw [hex, hm0]
  refine Ev.bind m1 ?_
  (repeat (first | with_reducible refine ep ?_ | with_reducible refine en ?_))
  exact Ev.now _
 ·have hm0 : zB f w = 1 * 2 ^ fb f + zM f w := by unfold zB; rw [if_neg c, Nat.one_mul]
  have eo : Go.bits .or .u64 (zM f w : Int) (shl .u64 1 ((fb f : Nat) : Int)) = ((zB f w : Nat) : Int) := by
   rw [zdP h, zkT _ _ (by omega) (by omega), hm0]
   have := zkW 1 (zM f w) (fb f) hfr (by omega)
   rw [Nat.one_mul] at this
   rw [this, Nat.one_mul]
  have hlt : zB f w < 18446744073709551616 := by omega
  have o1 := zfF (n := (zB f w : Int)) (by omega) (by omega)
  rw [Int.toNat_natCast] at o1
  have hb := hbl (zB f w) hlt
  have m1 := zdd (z4 f w) (zo (zB f w)) (zaj (by omega)) (wex f w)
  rw [V_D, zdl (by omega) (by omega)] at m1
  dsimp only
  (repeat (first | with_reducible refine ep ?_ | with_reducible refine en ?_))
  refine zh ?_; simp only [zbr.j1]
  rw [eo]
  refine Ev.bind (o1) ?_; try dsimp only
  refine zi (zhk h) ?_; try dsimp only
  rw [hex]
  refine Ev.bind m1 ?_
  (repeat (first | with_reducible refine ep ?_ | with_reducible refine en ?_))
  exact Ev.now _
def pr (f : Int) : Nat := if f = 1 then 24 else 53
def wd (f : Int) : Int := if f = 1 then 128 else 1024
def sgn (f : Int) (s : Bool) : Nat := if s = true then sg f else 0
def zq (f : Int) (n : Nat) (e : Int) : Int := max (e + (bl n : Nat) - (pr f : Nat)) (lo f)
def enc (f : Int) (n : Nat) (e : Int) : Nat := (zq f n e - lo f).toNat * 2 ^ fb f + n * 2 ^ (e - zq f n e).toNat
theorem zaX {f : Int} (h : isF f) : pr f = fb f + 1 := by rcases h with rfl | rfl <;> rfl
theorem zdL {f : Int} (h : isF f) : -1074 ≤ lo f ∧ lo f ≤ -149 := by rcases h with rfl | rfl <;> decide
theorem ziL {f : Int} (h : isF f) : 128 ≤ wd f ∧ wd f ≤ 1024 := by rcases h with rfl | rfl <;> decide
theorem zj1 {f : Int} (h : isF f) : wd f - (pr f : Nat) - lo f = ((mo f - 2 : Nat) : Int) := by rcases h with rfl | rfl <;> rfl
theorem zeh {f : Int} (h : isF f) : 255 ≤ mo f := by rcases h with rfl | rfl <;> decide
theorem ziA (f : Int) (n : Nat) (e : Int) : lo f ≤ zq f n e := by unfold zq; omega
theorem zfJ {f : Int} {n : Nat} {e : Int} (hn : bl n ≤ pr f) (he : lo f ≤ e) : n * 2 ^ (e - zq f n e).toNat < 2 ^ pr f := by
 have h1 := zac n
 have h2 : n * 2 ^ (e - zq f n e).toNat < 2 ^ bl n * 2 ^ (e - zq f n e).toNat := Nat.mul_lt_mul_of_pos_right h1 (zk _)
 rw [← Nat.pow_add] at h2
 exact Nat.lt_of_lt_of_le h2 (Nat.pow_le_pow_right (by omega) (by unfold zq; omega))
theorem ziB {f : Int} {n : Nat} {e : Int} (hn : bl n ≤ pr f) (he : lo f ≤ e) : zq f n e ≤ e := by unfold zq; omega
theorem zeN {f : Int} (h : isF f) {n : Nat} {e : Int} (hn : bl n ≤ pr f) (he : lo f ≤ e) (hw : e + (bl n : Nat) ≤ wd f) : enc f n e < mo f * 2 ^ fb f ∧ (zq f n e - lo f).toNat ≤ mo f - 2 := by
 have h1 := zfJ hn he
 have h2 := zj1 h
 have h3 := zeh h
 have h4 : (zq f n e - lo f).toNat ≤ mo f - 2 := by unfold zq; omega
 refine ⟨?_, h4⟩
 unfold enc
 rw [zaX h, Nat.pow_succ] at h1
 have h5 : (zq f n e - lo f).toNat * 2 ^ fb f ≤ (mo f - 2) * 2 ^ fb f := Nat.mul_le_mul_right _ h4
 have h6 : (mo f - 2) * 2 ^ fb f + 2 ^ fb f * 2 = mo f * 2 ^ fb f := by
  rw [Nat.mul_comm (2 ^ fb f) 2, ← Nat.add_mul]; congr 1; omega
 omega
theorem zec {f : Int} (h : isF f) : mo f * 2 ^ fb f + 2 ^ fb f = sg f := by rcases h with rfl | rfl <;> decide
theorem zlS {X s : Nat} (h : X * 2 ^ s < 18446744073709551616) (hs : s ≤ 64) : shl .u64 (X : Int) (s : Int) = ((X * 2 ^ s : Nat) : Int) := by
 unfold shl
 have e : min (s : Int).toNat IntKind.u64.bits = s := by
  have : IntKind.u64.bits = 64 := rfl
  omega
 rw [e, zeV, ← Int.natCast_mul]
 exact u64 (by omega) (by omega)
theorem ziT {a b : Int} (h1 : -100000000000 ≤ a) (h2 : a ≤ 100000000000) (h3 : -100000000000 ≤ b) (h4 : b ≤ 100000000000) : wrap64 (a - b) = a - b := by unfold wrap64; omega
theorem zmp {a b : Int} (h1 : -100000000000 ≤ a) (h2 : a ≤ 100000000000) (h3 : -100000000000 ≤ b) (h4 : b ≤ 100000000000) : wrap64 (a + b) = a + b := by unfold wrap64; omega
theorem ziz {f : Int} (h : isF f) : 2 ^ pr f ≤ 9007199254740992 := by rcases h with rfl | rfl <;> decide
instance (f : Int) : Decidable (isF f) := inferInstanceAs (Decidable (f = 1 ∨ f = 2))
theorem zfQ (f : Int) : zct.f f = some (decide (isF f)) := by
 unfold zct.f isF
 by_cases h : f = 1
 ·rw [if_pos h]; simp [h]
 ·rw [if_neg h]; simp [h]
def isM (m : Int) : Prop := 1 ≤ m ∧ m ≤ 5
instance (m : Int) : Decidable (isM m) := inferInstanceAs (Decidable (1 ≤ m ∧ m ≤ 5))
theorem zhJ {f : Int} (h : isF f) {w : Nat} (hw : w < 18446744073709551616) : zc6.f f (w : Int) = some (zbF f w) := by
 unfold zc6.f zbF
 rw [zfQ, decide_eq_true h, Option.bind_some, if_neg (by simp)]
 rcases h with rfl | rfl
 ·rw [if_pos rfl]
  by_cases c : w < 2 * sg 1
  ·rw [if_neg (by simp [sg] at c; omega), if_pos c]
  ·rw [if_pos (by simp [sg] at c; omega), if_neg c]
 ·rw [if_neg (by omega), if_pos (by simp [sg]; omega)]
theorem zfU {f : Int} (h : isF f) : zbh.f f = some (sg f : Int) := by rcases h with rfl | rfl <;> rfl
theorem zcN {f : Int} (h : isF f) : zan.f f = some (fb f : Int) := by rcases h with rfl | rfl <;> rfl
theorem zhL {f : Int} (h : isF f) : zbB.f f = some (mo f : Int) := by rcases h with rfl | rfl <;> rfl
theorem zcl {f : Int} (h : isF f) : zaP.f f = some (lo f) := by rcases h with rfl | rfl <;> rfl
theorem zhR {f : Int} (h : isF f) : zc7.f f = some (wd f) := by rcases h with rfl | rfl <;> rfl
theorem zfd {f : Int} (h : isF f) (w : Nat) : zJ f w ≤ mo f := by
 have hz : w % sg f < sg f := Nat.mod_lt _ (zbT h).1
 have : zJ f w < mo f + 1 := Nat.div_lt_of_lt_mul (by rw [← zgb h]; exact hz)
 omega
theorem zgl (f : Int) (w : Nat) : zM f w < 2 ^ fb f := Nat.mod_lt _ (zk _)
theorem zmn (f : Int) (w : Nat) : w % sg f = zJ f w * 2 ^ fb f + zM f w := by
 unfold zJ zM
 have := Nat.div_add_mod (w % sg f) (2 ^ fb f)
 rw [Nat.mul_comm] at this
 exact this.symm
theorem zfW {f : Int} (h : isF f) (w : Nat) : zau.f f (w : Int) = some (z4 f w, (zJ f w : Int), (zM f w : Int)) := by
 have hp := zbT h
 have hpp := zk (fb f)
 have hm := zcE h
 have hx := zfd h w
 have h52 := za6 h
 unfold zau.f
 rw [zfU h, Option.bind_some, Option.bind_some, if_neg (by omega), zcN h, Option.bind_some, if_pos (by omega), zdP h, if_neg (by omega), Option.bind_some, if_pos (by omega), zgf, zgf, zcR _ _ (by show fb f ≤ 64; omega)]
 have e : wrap64 ((w % sg f / 2 ^ fb f : Nat) : Int) = (zJ f w : Int) := by
  show wrap64 ((zJ f w : Nat) : Int) = _
  exact za0 (by omega) (by omega)
 rw [e]
 have e2 : decide ((w : Int) ≥ (sg f : Int)) = z4 f w := decide_eq_decide.2 (by omega)
 rw [e2]
 rfl
theorem zdZ {f : Int} (h : isF f) (w : Nat) : cls f w = if zJ f w = 0 then (if zM f w = 0 then 1 else 2) else if zJ f w < mo f then 3 else if zM f w = 0 then 4 else 5 := by
 have h1 := zmn f w
 have h2 := zgl f w
 have h3 := zfd h w
 have hpp := zk (fb f)
 have hm := zeh h
 unfold cls
 rw [h1]
 generalize zM f w = r at *
 generalize zJ f w = q at *
 generalize 2 ^ fb f = p at *
 by_cases c : q = 0
 ·subst c
  simp only [Nat.zero_mul, Nat.zero_add, if_true]
  by_cases c2 : r = 0
  ·simp [c2]
  ·rw [if_neg c2, if_pos h2, if_neg c2]
 ·have h4 : p ≤ q * p := Nat.le_mul_of_pos_left _ (by omega)
  rw [if_neg (by omega), if_neg (by omega), if_neg c]
  by_cases c2 : q < mo f
  ·have h5 : (q + 1) * p ≤ mo f * p := Nat.mul_le_mul_right _ c2
   rw [Nat.add_mul, Nat.one_mul] at h5
   rw [if_pos (by omega), if_pos c2]
  ·have h5 : q = mo f := by omega
   rw [h5, if_neg (by omega), if_neg (Nat.lt_irrefl _)]
   by_cases c3 : r = 0
   ·rw [if_pos (by omega), if_pos c3]
   ·rw [if_neg (by omega), if_neg c3]
theorem zfP {f : Int} (h : isF f) (w : Nat) : zG.f f (w : Int) = some (cls f w) := by
 unfold zG.f
 rw [zfW h, Option.bind_some, zdZ h, zhL h]
 generalize zM f w = r
 generalize zJ f w = q
 generalize mo f = m
 simp only [Option.bind_some]
 by_cases c : q = 0
 ·rw [if_pos (by omega), if_pos c]
  by_cases c2 : r = 0
  ·rw [if_pos (by omega), if_pos c2]
  ·rw [if_neg (by omega), if_pos (by omega), if_neg c2]
 ·rw [if_neg (by omega), if_neg (by omega), if_neg c]
  by_cases c2 : q < m
  ·rw [if_pos (by omega), if_pos c2]
  ·rw [if_neg (by omega), if_neg c2]
   by_cases c3 : r = 0
   ·rw [if_pos (by omega), if_pos c3]
   ·rw [if_neg (by omega), if_neg c3]
theorem zfR {f : Int} (h : isF f) (s : Bool) {q r : Nat} (hq : q * 2 ^ fb f + r < sg f) : zbg.f f s (q : Int) (r : Int) = some ((q * 2 ^ fb f + r + sgn f s : Nat) : Int) := by
 have hp := zbT h
 have hpp := zk (fb f)
 have h52 := za6 h
 have hqq : q ≤ q * 2 ^ fb f := Nat.le_mul_of_pos_right _ hpp
 unfold zbg.f sgn
 rw [zcN h, Option.bind_some, if_pos (by omega), zfU h, u64 (n := (q : Int)) (by omega) (by omega), zlS (by omega) (by omega), ← Int.natCast_add, u64 (n := ((q * 2 ^ fb f + r : Nat) : Int)) (by omega) (by omega)]
 cases s
 ·rw [if_neg (by simp), if_neg (by simp)]; rfl
 ·rw [if_pos rfl, if_pos rfl, Option.bind_some, ← Int.natCast_add, u64 (by omega) (by omega)]
theorem zhK {f : Int} (h : isF f) (s : Bool) : zbf.f f s = some ((mo f * 2 ^ fb f + sgn f s : Nat) : Int) := by
 have hil := zec h
 have hpp := zk (fb f)
 unfold zbf.f
 rw [zhL h, Option.bind_some]
 have := zfR h s (q := mo f) (r := 0) (by omega)
 rw [show ((0 : Nat) : Int) = 0 from rfl, Nat.add_zero] at this
 rw [this]; rfl
theorem zlm {f : Int} (h : isF f) (w : Nat) (s : Bool) : zab.f f (w : Int) s = some ((w % sg f + sgn f s : Nat) : Int) := by
 have hp := zbT h
 have hz : w % sg f < sg f := Nat.mod_lt _ hp.1
 unfold zab.f sgn
 rw [zfU h, Option.bind_some, if_neg (by omega), zgf]
 cases s
 ·rw [if_neg (by simp), if_neg (by simp)]; rfl
 ·rw [if_pos rfl, if_pos rfl, Option.bind_some, ← Int.natCast_add, u64 (by omega) (by omega)]
theorem ziN {f : Int} (h : isF f) (w : Nat) : zB f w < 18446744073709551616 := by
 have := zgl f w
 have := pfb h
 unfold zB; split <;> omega
theorem ziM {f : Int} (h : isF f) (w : Nat) : -1074 ≤ wex f w ∧ wex f w ≤ 3000 := by
 have := zfd h w
 have := zcE h
 have := zdL h
 unfold wex; split <;> omega
theorem zfY {f : Int} (h : isF f) (w : Nat) : Ev (fun k => zao.f k f (w : Int)) (mk (sv (z4 f w) (zB f w)) (wex f w)) := by
 have hlt := ziN h w
 have hwb := ziM h w
 have hfr := zgl f w
 have hpw := pfb h
 have hx := zfd h w
 have hm := zcE h
 have hlo := zdL h
 have o1 := ze2 (n := (zB f w : Int)) (by omega) (by omega)
 rw [Int.toNat_natCast] at o1
 have f1 := zbR (z4 f w) (zo (zB f w)) (by
  have : (D (zB f w)).length ≤ 2 := zbs (by omega)
  omega) (e := wex f w) (by omega) (by omega)
 rw [V_D] at f1
 unfold zao.f
 refine zi (zfW h w) ?_; try dsimp only
 by_cases c : zJ f w = 0
 ·have e1 : zB f w = zM f w := by unfold zB; rw [if_pos c]
  have e2 : wex f w = lo f := by unfold wex; rw [if_pos c]; omega
  rw [e1] at o1
  rw [e1, e2] at f1
  refine ze (by omega) ?_
  refine Ev.bind (o1) ?_; try dsimp only
  refine zi (zcl h) ?_; try dsimp only
  refine Ev.bind (f1) ?_; try dsimp only
  rw [e1, e2]
  exact Ev.now _
 ·have e1 : zB f w = 2 ^ fb f + zM f w := by unfold zB; rw [if_neg c]
  have e2 : wex f w = (zJ f w : Int) - 1 + lo f := by unfold wex; rw [if_neg c]
  have e3 : IntKind.u64.wrap (((2 ^ fb f : Nat) : Int) + (zM f w : Int)) = (zB f w : Int) := by rw [e1, ← Int.natCast_add]; exact u64 (by omega) (by omega)
  have e4 : wrap64 (wrap64 ((zJ f w : Int) - 1) + lo f) = wex f w := by rw [e2]; unfold wrap64; omega
  refine zf (by omega) ?_
  refine zi (zcN h) ?_; try dsimp only
  rw [zdP h, e3]
  refine ze (by omega) ?_
  refine Ev.bind (o1) ?_; try dsimp only
  refine zi (zcl h) ?_; try dsimp only
  rw [e4]
  refine Ev.bind (f1) ?_; try dsimp only
  exact Ev.now _
def mz (z e : Int) : Int := sv (mk z e).1 (V (mk z e).2.1)
def me (z e : Int) : Int := (mk z e).2.2
theorem zck (e : Int) : mz 0 e = 0 := rfl
theorem zep (z : Int) : sv (decide (z < 0)) z.natAbs = z := by
 unfold sv
 by_cases h : z < 0
 ·rw [decide_eq_true h, if_pos rfl]; omega
 ·rw [decide_eq_false h, if_neg (by simp)]; omega
theorem zaJ {z : Int} (h : z ≠ 0) (e : Int) : ∃ j : Nat, z = mz z e * 2 ^ j ∧ me z e = e + (j : Int) ∧ mz z e ≠ 0 ∧ bl (mz z e).natAbs + j = bl z.natAbs := by
 have hn : z.natAbs ≠ 0 := by omega
 have hw := zdk hn
 obtain ⟨q, hq⟩ := zcj hn
 have hd : z.natAbs / 2 ^ lw z.natAbs = 2 * q + 1 := by
  have : z.natAbs / 2 ^ lw z.natAbs = 2 ^ lw z.natAbs * (2 * q + 1) / 2 ^ lw z.natAbs := by rw [← hq]
  rw [this, Nat.mul_div_cancel_left _ (zk _)]
 have hm : mz z e = sv (decide (z < 0)) (z.natAbs / 2 ^ lw z.natAbs) := by
  unfold mz mk; rw [if_neg h]; show sv _ (V (D _)) = _; rw [V_D]
 have he : me z e = e + (lw z.natAbs : Nat) := by unfold me mk; rw [if_neg h]
 refine ⟨lw z.natAbs, ?_, he, ?_, ?_⟩
 ·rw [hm, hd]
  have h1 : sv (decide (z < 0)) (2 * q + 1) * 2 ^ lw z.natAbs = sv (decide (z < 0)) ((2 * q + 1) * 2 ^ lw z.natAbs) := by
   unfold sv
   split
   ·rw [Int.neg_mul, Int.natCast_mul, Int.natCast_pow]; rfl
   ·rw [Int.natCast_mul, Int.natCast_pow]; rfl
  rw [h1, Nat.mul_comm, ← hq, zep]
 ·rw [hm, hd]; intro h2; have := zbb.1 h2; omega
 ·rw [hm, zaz, zcc]; omega
theorem zho (z e : Int) : mk (mz z e) (me z e) = mk z e := zdM (zH z e)
theorem zbQ (z e : Int) : (mk z e).2.1.length ≤ (bl z.natAbs + 31) / 32 := by
 rw [zkB]
 refine zaj ?_
 rw [zcc]; omega
theorem zaq (z e : Int) : me z e = 0 ∧ z = 0 ∨ e ≤ me z e ∧ me z e ≤ e + (bl z.natAbs : Nat) := by
 by_cases h : z = 0
 ·exact .inl ⟨by rw [h]; rfl, h⟩
 ·obtain ⟨j, _, h2, _, h4⟩ := zaJ h e
  exact .inr (by omega)
theorem zgI {z : Int} (h : z ≠ 0) {e m : Int} (hm : m ≤ e) : al (mz z e) (me z e) m = al z e m := by
 obtain ⟨j, h1, h2, _, _⟩ := zaJ h e
 rw [h2]
 have h3 : al z e m = al (mz z e * 2 ^ j) e m := by rw [← h1]
 rw [h3]
 unfold al
 rw [Int.mul_assoc, ← Int.pow_add]
 congr 2
 omega
theorem zeS {z : Int} (h : z ≠ 0) (e : Int) : mz z e ≠ 0 := by obtain ⟨j, _, _, h3, _⟩ := zaJ h e; exact h3
theorem zeA (za ea zb eb : Int) : zl za ea zb eb = zl zb eb za ea := by
 unfold zl; rw [Int.add_comm, Int.min_comm]
theorem zc0 (za ea zb eb : Int) : zl (mz za ea) (me za ea) zb eb = zl za ea zb eb := by
 by_cases h : za = 0
 ·subst h; rw [zck, zdz, zdz]
 ·have hb := zaq za ea
  have h1 : ea ≤ me za ea := by omega
  rw [← zcn (za := mz za ea) (m := min ea eb) (by omega) (by omega), zgI h (by omega)]
  rfl
theorem zdy (za ea zb eb : Int) : zl za ea (mz zb eb) (me zb eb) = zl za ea zb eb := by
 rw [zeA, zc0, zeA]
theorem zi6 (a b e : Int) : zl a e b e = mk (a + b) e := by
 unfold zl al
 rw [Int.min_self, Int.sub_self]; simp
theorem zgW (ea zb eb : Int) : zp 0 ea zb eb = -zb.sign := by
 unfold zp
 rw [zco, Int.zero_sub, Int.sign_neg, zaE]
theorem zgU (za ea zb eb : Int) : zp za ea zb eb = -zp zb eb za ea := by
 unfold zp
 rw [← Int.sign_neg, Int.neg_sub, Int.min_comm]
theorem zfq (za ea zb eb : Int) : zp (mz za ea) (me za ea) zb eb = zp za ea zb eb := by
 by_cases h : za = 0
 ·subst h; rw [zck, zgW, zgW]
 ·have hb := zaq za ea
  have h1 : ea ≤ me za ea := by omega
  rw [← zd0 (za := mz za ea) (m := min ea eb) (by omega) (by omega), zgI h (by omega)]
  rfl
theorem zgV (za ea zb eb : Int) : zp za ea (mz zb eb) (me zb eb) = zp za ea zb eb := by
 rw [zgU, zfq, ← zgU]
theorem zjx (a b e : Int) : zp a e b e = (a - b).sign := by
 unfold zp al
 rw [Int.min_self, Int.sub_self]; simp
theorem zj4 (z : Int) (j k : Nat) : z * 2 ^ j / 2 ^ (j + k) = z / 2 ^ k := by
 rw [Int.pow_add, Int.mul_comm z, Int.mul_ediv_mul_of_pos _ _ (Int.pow_pos (by omega))]
theorem zj3 (z e : Int) (j : Nat) : zY z (e + j) = zY (z * 2 ^ j) e := by
 unfold zY
 by_cases h : 0 ≤ e
 ·rw [if_pos (by omega), if_pos h, Int.mul_assoc, ← Int.pow_add]
  congr 2; omega
 ·rw [if_neg h]
  by_cases h2 : 0 ≤ e + (j : Int)
  ·rw [if_pos h2]
   have e1 : z * 2 ^ j = z * 2 ^ (e + (j : Int)).toNat * 2 ^ (-e).toNat := by
    rw [Int.mul_assoc, ← Int.pow_add]; congr 2; omega
   rw [e1, Int.mul_ediv_cancel _ (by have := Int.pow_pos (n := 2) (m := (-e).toNat) (by omega); omega)]
  ·rw [if_neg h2]
   have e1 : (-e).toNat = j + (-(e + (j : Int))).toNat := by omega
   rw [e1, zj4]
theorem zj2 (z e n : Int) : zY (mz z e) (me z e + n) = zY z (e + n) := by
 by_cases h : z = 0
 ·subst h; rw [zck]; unfold zY; split <;> split <;> simp
 ·obtain ⟨j, h1, h2, _, _⟩ := zaJ h e
  have h3 : zY z (e + n) = zY (mz z e * 2 ^ j) (e + n) := by rw [← h1]
  rw [h3, h2, ← zj3]
  congr 1; omega
theorem zl9 (z e : Int) : top (mz z e) (me z e) = top z e := by
 by_cases h : z = 0
 ·subst h; rfl
 ·obtain ⟨j, h1, h2, h3, h4⟩ := zaJ h e
  unfold top
  rw [if_neg h, if_neg h3, h2]; omega
structure Rg (z e : Int) : Prop where
 b : bl z.natAbs ≤ 10000000
 lo : -40000000 ≤ e
 hi : e ≤ 40000000
theorem zf5 {za ea zb eb : Int} (ha : Rg za ea) (hb : Rg zb eb) : zet (mk za ea).2.1 (me za ea) (mk zb eb).2.1 (me zb eb) := by
 have a1 := zbQ za ea
 have b1 := zbQ zb eb
 have a2 := zaq za ea
 have b2 := zaq zb eb
 obtain ⟨h1, h2, h3⟩ := ha
 obtain ⟨h4, h5, h6⟩ := hb
 refine ⟨by omega, by omega, by omega, by omega⟩
theorem zfO {za ea zb eb : Int} (ha : Rg za ea) (hb : Rg zb eb) : Ev (fun k => zL.f k (mk za ea).1 (mk za ea).2.1 (mk za ea).2.2 (mk zb eb).1 (mk zb eb).2.1 (mk zb eb).2.2) (zl za ea zb eb) := by
 refine zg (zhW (zH za ea) (zH zb eb) (zf5 ha hb)) ?_
 show zl (mz za ea) (me za ea) (mz zb eb) (me zb eb) = _
 rw [zc0, zdy]
theorem zcG (z e : Int) : mz (-z) e = -mz z e ∧ me (-z) e = me z e := by
 by_cases h : z = 0
 ·subst h; exact ⟨rfl, rfl⟩
 ·have hv := zfg (zH z e)
  have h1 : mk (-mz z e) (me z e) = mk (-z) e := by
   obtain ⟨j, h1, h2, h3, h4⟩ := zaJ h e
   have h5 : mk (-z) e = mk (-mz z e * 2 ^ j) e := by rw [Int.neg_mul, ← h1]
   rw [h5, zaI, h2]
  have h2 : mk (-(sv (mk z e).1 (V (mk z e).2.1))) (mk z e).2.2 = mk (-z) e := h1
  rw [h2] at hv
  refine ⟨?_, hv.2.2⟩
  have h3 : mz (-z) e = sv (mk (-z) e).1 (V (mk z e).2.1) := by unfold mz; rw [hv.1]
  rw [h3, hv.2.1]; rfl
theorem zfX {za ea zb eb : Int} (ha : Rg za ea) (hb : Rg zb eb) : Ev (fun k => zbA.f k (mk za ea).1 (mk za ea).2.1 (mk za ea).2.2 (mk zb eb).1 (mk zb eb).2.1 (mk zb eb).2.2) (zl za ea (-zb) eb) := by
 refine zg (zh0 (zH za ea) (zH zb eb) (zf5 ha hb)) ?_
 show zl (mz za ea) (me za ea) (-mz zb eb) (me zb eb) = _
 rw [zc0, ← (zcG zb eb).1, ← (zcG zb eb).2, zdy]
theorem zlb {za ea zb eb : Int} (ha : Rg za ea) (hb : Rg zb eb) : Ev (fun k => zc3.f k (mk za ea).1 (mk za ea).2.1 (mk za ea).2.2 (mk zb eb).1 (mk zb eb).2.1 (mk zb eb).2.2) (zp za ea zb eb) := by
 refine zg (zlq (zH za ea) (zH zb eb) (zf5 ha hb)) ?_
 show zp (mz za ea) (me za ea) (mz zb eb) (me zb eb) = _
 rw [zfq, zgV]
theorem zlf (z e : Int) : zcd.f (mk z e).1 (mk z e).2.1 (mk z e).2.2 = some (mk (-z) e) := by
 rw [zhZ (zH z e)]
 congr 1
 show mk (-mz z e) (me z e) = _
 rw [← (zcG z e).1, ← (zcG z e).2, zho]
theorem zfV (z e : Int) : z7.f (mk z e).1 (mk z e).2.1 (mk z e).2.2 = some z.sign := by
 rw [zek (zH z e), zhq]
theorem ze0 {z e : Int} (h : Rg z e) : Ev (fun k => zat.f k (mk z e).1 (mk z e).2.1 (mk z e).2.2) (top z e) := by
 have a1 := zbQ z e
 have a2 := zaq z e
 obtain ⟨h1, h2, h3⟩ := h
 have e1 : (mk z e).2.2 = me z e := rfl
 refine zg (ze3 (zH z e) (by omega) (by omega) (by omega)) ?_
 exact zl9 z e
theorem zhM {za ea zb eb : Int} (ha : Rg za ea) (hb : Rg zb eb) : Ev (fun k => zbe.f k (mk za ea).1 (mk za ea).2.1 (mk za ea).2.2 (mk zb eb).1 (mk zb eb).2.1 (mk zb eb).2.2) (mk (za * zb) (ea + eb)) := by
 have a1 := zbQ za ea
 have b1 := zbQ zb eb
 have a2 := zaq za ea
 have b2 := zaq zb eb
 obtain ⟨h1, h2, h3⟩ := ha
 obtain ⟨h4, h5, h6⟩ := hb
 have e1 : (mk za ea).2.2 = me za ea := rfl
 have e2 : (mk zb eb).2.2 = me zb eb := rfl
 refine zg (zlv (zH za ea) (zH zb eb) (by omega) (by omega) (by omega) (by omega) (by omega) (by omega)) ?_
 show mk (mz za ea * mz zb eb) (me za ea + me zb eb) = _
 by_cases c : za = 0
 ·subst c; rw [zck, Int.zero_mul, Int.zero_mul]; rfl
 by_cases c2 : zb = 0
 ·subst c2; rw [zck, Int.mul_zero, Int.mul_zero]; rfl
 obtain ⟨j, p1, p2, _, _⟩ := zaJ c ea
 obtain ⟨i, q1, q2, _, _⟩ := zaJ c2 eb
 have e3 : za * zb = mz za ea * mz zb eb * 2 ^ (j + i) := by
  conv => lhs; rw [p1, q1]
  rw [Int.pow_add, Int.mul_assoc, Int.mul_assoc]
  congr 1
  rw [Int.mul_left_comm]
 rw [e3, zaI, p2, q2]
 congr 1
 omega
theorem zeY (z : Int) {e n : Int} (hb : bl z.natAbs ≤ 10000000000) (h1 : -10000000000000 ≤ e) (h2 : e ≤ 10000000000000) (h3 : -10000000000000 ≤ n) (h4 : n ≤ 10000000000000) : zbL.f (mk z e).1 (mk z e).2.1 (mk z e).2.2 n = some (mk z (e + n)) := by
 have a2 := zaq z e
 have e1 : (mk z e).2.2 = me z e := rfl
 rw [zlA (zH z e) (by omega) (by omega) (by omega) (by omega)]
 congr 1
 show mk (mz z e) (me z e + n) = _
 by_cases c : z = 0
 ·subst c; rfl
 ·obtain ⟨j, p1, p2, _, _⟩ := zaJ c e
  have e3 : mk z (e + n) = mk (mz z e * 2 ^ j) (e + n) := by rw [← p1]
  rw [e3, zaI, p2]
  congr 1; omega
theorem zhI {z e : Int} (hb : bl z.natAbs ≤ 20000000) (h1 : -800000000 ≤ e) (h2 : e ≤ 800000000) : Ev (fun k => zcr.f k (mk z e).1 (mk z e).2.1 (mk z e).2.2) (mk (zY z e) 0) := by
 have a1 := zbQ z e
 have a2 := zaq z e
 have e1 : (mk z e).2.2 = me z e := rfl
 refine zg (zlt (zH z e) (by omega) (by omega) (by omega)) ?_
 show mk (zY (mz z e) (me z e)) 0 = _
 have := zj2 z e 0
 rw [Int.add_zero, Int.add_zero] at this
 rw [this]
theorem zfT (a e b e' : Int) (h : bl a.natAbs ≤ 1000000000) : Ev (fun k => zbY.f k (mk a e).1 (mk a e).2.1 (mk a e).2.2 (mk b e').1 (mk b e').2.1 (mk b e').2.2) (decide (mk a e = mk b e')) := by
 have a1 := zbQ a e
 exact zly _ _ _ _ _ _ (by omega)
theorem zfD {a b e : Int} (h : mk a e = mk b e) : a = b := by
 by_cases c : a = 0
 ·by_cases c2 : b = 0
  ·rw [c, c2]
  ·exfalso
   have h1 := zeS c2 e
   have h2 : mz a e = mz b e := by unfold mz; rw [h]
   rw [c, zck] at h2
   exact h1 h2.symm
 ·by_cases c2 : b = 0
  ·exfalso
   have h1 := zeS c e
   have h2 : mz a e = mz b e := by unfold mz; rw [h]
   rw [c2, zck] at h2
   exact h1 h2
  ·have h2 : mz a e = mz b e := by unfold mz; rw [h]
   have h3 : me a e = me b e := by unfold me; rw [h]
   obtain ⟨j, p1, p2, _, _⟩ := zaJ c e
   obtain ⟨i, q1, q2, _, _⟩ := zaJ c2 e
   have : j = i := by omega
   subst this
   rw [p1, q1, h2]
theorem zhn {a b ea eb m : Int} (h1 : m ≤ ea) (h2 : m ≤ eb) : mk a ea = mk b eb ↔ al a ea m = al b eb m := by
 rw [← zeg (z := a) h1, ← zeg (z := b) h2]
 exact ⟨zfD, fun h => by rw [h]⟩
def upB (m : Int) (s odd zb6 more : Bool) : Bool :=
 if m = 1 then zb6 && (more || odd) else if m = 2 then zb6 else if m = 4 then !s && (zb6 || more) else if m = 5 then s && (zb6 || more) else false
def rnd (m : Int) (s : Bool) (n k : Nat) : Nat :=
 n / 2 ^ k + (if upB m s (decide (n / 2 ^ k % 2 = 1)) (decide (2 ^ k ≤ 2 * (n % 2 ^ k))) (decide (2 * (n % 2 ^ k) % 2 ^ k ≠ 0)) = true then 1 else 0)
theorem zh4 {m : Int} {s : Bool} {n k : Nat} (h : n % 2 ^ k = 0) : rnd m s n k = n / 2 ^ k := by
 have hp := zk k
 unfold rnd
 rw [h]
 have e1 : decide (2 ^ k ≤ 2 * 0) = false := decide_eq_false (by omega)
 have e2 : decide (2 * 0 % 2 ^ k ≠ 0) = false := decide_eq_false (by simp)
 rw [e1, e2]
 unfold upB
 simp
theorem zdp (m : Int) (s : Bool) (n : Nat) : rnd m s n 0 = n := by
 rw [zh4 (by rw [Nat.pow_zero, Nat.mod_one]), Nat.pow_zero, Nat.div_one]
theorem zh5 (m : Int) (s : Bool) (n k j : Nat) : rnd m s (n * 2 ^ j) (k + j) = rnd m s n k := by
 have hj := zk j
 have hk := zk k
 have e1 : n * 2 ^ j / 2 ^ (k + j) = n / 2 ^ k := by rw [Nat.pow_add, Nat.mul_div_mul_right _ _ hj]
 have e2 : n * 2 ^ j % 2 ^ (k + j) = n % 2 ^ k * 2 ^ j := by rw [Nat.pow_add, Nat.mul_mod_mul_right]
 unfold rnd
 rw [e1, e2]
 have e3 : decide (2 ^ (k + j) ≤ 2 * (n % 2 ^ k * 2 ^ j)) = decide (2 ^ k ≤ 2 * (n % 2 ^ k)) := decide_eq_decide.2 (by
  rw [Nat.pow_add, ← Nat.mul_assoc]
  exact ⟨fun h => Nat.le_of_mul_le_mul_right h hj, fun h => Nat.mul_le_mul_right _ h⟩)
 have e4 : decide (2 * (n % 2 ^ k * 2 ^ j) % 2 ^ (k + j) ≠ 0) = decide (2 * (n % 2 ^ k) % 2 ^ k ≠ 0) := decide_eq_decide.2 (by
  rw [Nat.pow_add, ← Nat.mul_assoc, Nat.mul_mod_mul_right]
  constructor
  ·intro h h2; exact h (by rw [h2, Nat.zero_mul])
  ·intro h h2
   rcases Nat.mul_eq_zero.1 h2 with h3 | h3
   ·exact h h3
   ·omega)
 rw [e3, e4]
def R (m : Int) (s : Bool) (n : Nat) (e E : Int) : Nat := rnd m s (n * 2 ^ (e - E).toNat) (E - e).toNat
theorem zi1 (m : Int) (s : Bool) (n : Nat) (e E : Int) (j : Nat) : R m s (n * 2 ^ j) e E = R m s n (e + j) E := by
 unfold R
 by_cases h : E ≤ e
 ·have e1 : (E - e).toNat = 0 := by omega
  have e2 : (E - (e + (j : Int))).toNat = 0 := by omega
  rw [e1, e2, zdp, zdp, Nat.mul_assoc, ← Nat.pow_add]
  congr 2; omega
 ·by_cases h2 : E ≤ e + (j : Int)
  ·have e1 : (e - E).toNat = 0 := by omega
   have e2 : (E - (e + (j : Int))).toNat = 0 := by omega
   rw [e1, e2, zdp, Nat.pow_zero, Nat.mul_one]
   have e3 : n * 2 ^ j = n * 2 ^ (e + (j : Int) - E).toNat * 2 ^ (E - e).toNat := by
    rw [Nat.mul_assoc, ← Nat.pow_add]; congr 2; omega
   rw [e3]
   have := zh5 m s (n * 2 ^ (e + (j : Int) - E).toNat) 0 (E - e).toNat
   rw [Nat.zero_add, zdp] at this
   exact this
  ·have e1 : (e - E).toNat = 0 := by omega
   have e2 : (e + (j : Int) - E).toNat = 0 := by omega
   have e3 : (E - e).toNat = (E - (e + (j : Int))).toNat + j := by omega
   rw [e1, e2, e3, Nat.pow_zero, Nat.mul_one, Nat.mul_one, zh5]
def exR (n : Nat) (e E : Int) : Bool := decide (n % 2 ^ (E - e).toNat = 0)
theorem zjX (n : Nat) (e E : Int) (j : Nat) : exR (n * 2 ^ j) e E = exR n (e + j) E := by
 unfold exR
 apply decide_eq_decide.2
 by_cases h2 : E ≤ e + (j : Int)
 ·have e2 : (E - (e + (j : Int))).toNat = 0 := by omega
  rw [e2, Nat.pow_zero, Nat.mod_one]
  have e3 : n * 2 ^ j = n * 2 ^ (j - (E - e).toNat) * 2 ^ (E - e).toNat := by
   rw [Nat.mul_assoc, ← Nat.pow_add]; congr 2; omega
  rw [e3, Nat.mul_mod_left]
 ·have e3 : (E - e).toNat = (E - (e + (j : Int))).toNat + j := by omega
  rw [e3, Nat.pow_add, Nat.mul_mod_mul_right]
  constructor
  ·intro h
   rcases Nat.mul_eq_zero.1 h with h3 | h3
   ·exact h3
   ·have := zk j; omega
  ·intro h; rw [h, Nat.zero_mul]
theorem zfo (q : Nat) : bl (q + 1) ≤ bl q + 1 := by
 refine zP ?_
 have := zac q
 rw [Nat.pow_succ]
 have := zk (bl q)
 omega
theorem zi0 {m : Int} {s : Bool} {n : Nat} {e E : Int} (hn : n ≠ 0) : (bl (R m s n e E) : Int) ≤ max 1 (e + (bl n : Nat) - E + 1) := by
 have h0 : rnd m s (n * 2 ^ (e - E).toNat) (E - e).toNat ≤ n * 2 ^ (e - E).toNat / 2 ^ (E - e).toNat + 1 := by unfold rnd; split <;> omega
 have h1 := zbu h0
 have h2 := zfo (n * 2 ^ (e - E).toNat / 2 ^ (E - e).toNat)
 rw [zcc, zbJ hn] at h2
 unfold R
 by_cases c : E ≤ e
 ·have e1 : (E - e).toNat = 0 := by omega
  rw [e1, zdp, zbJ hn]; omega
 ·omega
theorem zgs {m : Int} {s : Bool} {n : Nat} {e E : Int} (hn : n ≠ 0) (h : E ≤ e + (bl n : Nat) - 1) : e + (bl n : Nat) ≤ (bl (R m s n e E) : Int) + E ∧ (bl (R m s n e E) : Int) + E ≤ e + (bl n : Nat) + 1 := by
 have h3 := zi0 (m := m) (s := s) (e := e) (E := E) hn
 refine ⟨?_, by omega⟩
 have h0 : n * 2 ^ (e - E).toNat / 2 ^ (E - e).toNat ≤ rnd m s (n * 2 ^ (e - E).toNat) (E - e).toNat := by unfold rnd; split <;> omega
 have h1 := zbu h0
 rw [zcc, zbJ hn] at h1
 unfold R; omega
def TK (m : Int) (z e E : Int) : Int := sv (decide (z < 0)) (R m (decide (z < 0)) z.natAbs e E)
theorem zjW {z e E : Int} : exR z.natAbs e E = true ↔ mk (zY z (e - E)) E = mk z e := by
 unfold exR zY
 rw [decide_eq_true_iff]
 by_cases c : E ≤ e
 ·have e1 : (E - e).toNat = 0 := by omega
  rw [e1, Nat.pow_zero, Nat.mod_one, if_pos (by omega), zaI, show E + ((e - E).toNat : Int) = e by omega]
  simp
 ·rw [if_neg (by omega), show (-(e - E)).toNat = (E - e).toNat by omega]
  generalize hk : (E - e).toNat = k
  have hE : E = e + (k : Int) := by omega
  rw [hE, ← zaI]
  constructor
  ·intro h
   congr 1
   have h1 : (2 ^ k : Int) ∣ z := by
    have h2 : 2 ^ k ∣ z.natAbs := Nat.dvd_of_mod_eq_zero h
    have h3 : ((2 ^ k : Nat) : Int) ∣ z := Int.ofNat_dvd_left.2 h2
    rwa [Int.natCast_pow] at h3
   exact Int.ediv_mul_cancel h1
  ·intro h
   have h1 := zfD h
   have h2 : (2 ^ k : Int) ∣ z := ⟨z / 2 ^ k, by rw [Int.mul_comm]; exact h1.symm⟩
   have h3 : ((2 ^ k : Nat) : Int) ∣ z := by rw [Int.natCast_pow]; exact h2
   exact Nat.mod_eq_zero_of_dvd (Int.ofNat_dvd_left.1 h3)
theorem zgu {m z e E : Int} (h : exR z.natAbs e E = true) : mk (TK m z e E) E = mk z e := by
 unfold TK R
 unfold exR at h
 have h := of_decide_eq_true h
 by_cases c : E ≤ e
 ·have e1 : (E - e).toNat = 0 := by omega
  rw [e1, zdp]
  have e2 : sv (decide (z < 0)) (z.natAbs * 2 ^ (e - E).toNat) = z * 2 ^ (e - E).toNat := by
   have := za1 (decide (z < 0)) z.natAbs e E
   rw [zep] at this
   exact this.symm
  rw [e2, zaI]; congr 1; omega
 ·have e1 : (e - E).toNat = 0 := by omega
  rw [e1, Nat.pow_zero, Nat.mul_one, zh4 h]
  generalize hk : (E - e).toNat = k at *
  have hE : E = e + (k : Int) := by omega
  rw [hE, ← zaI]
  congr 1
  have e2 : sv (decide (z < 0)) (z.natAbs / 2 ^ k) * 2 ^ k = sv (decide (z < 0)) (z.natAbs / 2 ^ k * 2 ^ k) := by
   unfold sv; split
   ·rw [Int.neg_mul, Int.natCast_mul, Int.natCast_pow]; rfl
   ·rw [Int.natCast_mul, Int.natCast_pow]; rfl
  rw [e2, Nat.div_mul_cancel (Nat.dvd_of_mod_eq_zero h), zep]
def pick (m : Int) (s : Bool) (F c : Int) : Int :=
 if m = 5 then F else if m = 4 then F + 1 else if m = 3 then (if s = true then F + 1 else F)
 else if c < 0 then F else if c > 0 then F + 1 else if m = 2 then (if s = true then F else F + 1) else if F % 2 = 0 then F else F + 1
theorem zk5 (m : Int) (hm : isM m) (n k : Nat) (h : n % 2 ^ k ≠ 0) : pick m false ((n : Int) / 2 ^ k) (2 * ((n : Int) % 2 ^ k) - 2 ^ k).sign = (rnd m false n k : Int) := by
 have hp := zk k
 have e0 : (2 : Int) ^ k = ((2 ^ k : Nat) : Int) := by rw [Int.natCast_pow]; rfl
 have hlt := Nat.mod_lt n hp
 rw [e0]
 have e1 : (n : Int) / ((2 ^ k : Nat) : Int) = ((n / 2 ^ k : Nat) : Int) := rfl
 have e2 : (n : Int) % ((2 ^ k : Nat) : Int) = ((n % 2 ^ k : Nat) : Int) := rfl
 rw [e1, e2]
 have e3 : decide (2 * (n % 2 ^ k) % 2 ^ k ≠ 0) = decide (2 * (n % 2 ^ k) ≠ 2 ^ k) := decide_eq_decide.2 (by
  generalize n % 2 ^ k = r at *
  generalize 2 ^ k = p at *
  by_cases c : 2 * r < p
  ·rw [Nat.mod_eq_of_lt c]; omega
  ·have : 2 * r % p = 2 * r - p := by
    rw [Nat.mod_eq_sub_mod (by omega), Nat.mod_eq_of_lt (by omega)]
   rw [this]; omega)
 unfold rnd
 rw [e3]
 generalize n % 2 ^ k = r at *
 generalize n / 2 ^ k = q at *
 generalize 2 ^ k = p at *
 unfold pick upB
 obtain ⟨m1, m2⟩ := hm
 have hm5 : m = 1 ∨ m = 2 ∨ m = 3 ∨ m = 4 ∨ m = 5 := by omega
 rcases Nat.lt_trichotomy (2 * r) p with c | c | c
 ·have s1 : (2 * (r : Int) - (p : Int)).sign = -1 := Int.sign_eq_neg_one_of_neg (by omega)
  have d1 : decide (p ≤ 2 * r) = false := decide_eq_false (by omega)
  have d2 : decide (2 * r ≠ p) = true := decide_eq_true (by omega)
  rw [s1, d1, d2]
  rcases hm5 with rfl | rfl | rfl | rfl | rfl <;> simp
 ·have s1 : (2 * (r : Int) - (p : Int)).sign = 0 := by
   have : 2 * (r : Int) - (p : Int) = 0 := by omega
   rw [this]; rfl
  have d1 : decide (p ≤ 2 * r) = true := decide_eq_true (by omega)
  have d2 : decide (2 * r ≠ p) = false := decide_eq_false (by omega)
  rw [s1, d1, d2]
  rcases hm5 with rfl | rfl | rfl | rfl | rfl <;> simp
  by_cases hq : q % 2 = 1
  ·rw [if_neg (by omega)]; simp [hq]
  ·rw [if_pos (by omega)]; simp [hq]
 ·have s1 : (2 * (r : Int) - (p : Int)).sign = 1 := Int.sign_eq_one_of_pos (by omega)
  have d1 : decide (p ≤ 2 * r) = true := decide_eq_true (by omega)
  have d2 : decide (2 * r ≠ p) = true := decide_eq_true (by omega)
  rw [s1, d1, d2]
  rcases hm5 with rfl | rfl | rfl | rfl | rfl <;> simp
theorem zk4 (m : Int) (hm : isM m) (n k : Nat) (h : n % 2 ^ k ≠ 0) : pick m true (-(n : Int) / 2 ^ k) (2 * (-(n : Int) % 2 ^ k) - 2 ^ k).sign = -(rnd m true n k : Int) := by
 have hp := zk k
 have e0 : (2 : Int) ^ k = ((2 ^ k : Nat) : Int) := by rw [Int.natCast_pow]; rfl
 have hlt := Nat.mod_lt n hp
 have e1 := zea true n k
 rw [if_pos ⟨rfl, h⟩] at e1
 have e1 : -(n : Int) / 2 ^ k = -((n / 2 ^ k + 1 : Nat) : Int) := e1
 have e2 : -(n : Int) % 2 ^ k = ((2 ^ k - n % 2 ^ k : Nat) : Int) := by
  have h1 := Int.mul_ediv_add_emod (-(n : Int)) (2 ^ k)
  rw [e1, e0] at h1
  have h2 := Nat.div_add_mod n (2 ^ k)
  rw [e0]
  rw [Int.mul_neg, ← Int.natCast_mul, Nat.mul_add, Nat.mul_one] at h1
  generalize -(n : Int) % ((2 ^ k : Nat) : Int) = y at *
  generalize 2 ^ k * (n / 2 ^ k) = w at *
  omega
 rw [e1, e2, e0]
 have e3 : decide (2 * (n % 2 ^ k) % 2 ^ k ≠ 0) = decide (2 * (n % 2 ^ k) ≠ 2 ^ k) := decide_eq_decide.2 (by
  generalize n % 2 ^ k = r at *
  generalize 2 ^ k = p at *
  by_cases c : 2 * r < p
  ·rw [Nat.mod_eq_of_lt c]; omega
  ·have : 2 * r % p = 2 * r - p := by
    rw [Nat.mod_eq_sub_mod (by omega), Nat.mod_eq_of_lt (by omega)]
   rw [this]; omega)
 unfold rnd
 rw [e3]
 clear e1 e2 e3
 generalize n % 2 ^ k = r at *
 generalize n / 2 ^ k = q at *
 generalize 2 ^ k = p at *
 unfold pick upB
 obtain ⟨m1, m2⟩ := hm
 have hm5 : m = 1 ∨ m = 2 ∨ m = 3 ∨ m = 4 ∨ m = 5 := by omega
 have hpr : ((p - r : Nat) : Int) = (p : Int) - (r : Int) := by omega
 rw [hpr]
 rcases Nat.lt_trichotomy (2 * r) p with c | c | c
 ·have s1 : (2 * ((p : Int) - (r : Int)) - (p : Int)).sign = 1 := Int.sign_eq_one_of_pos (by omega)
  have d1 : decide (p ≤ 2 * r) = false := decide_eq_false (by omega)
  have d2 : decide (2 * r ≠ p) = true := decide_eq_true (by omega)
  rw [s1, d1, d2]
  rcases hm5 with rfl | rfl | rfl | rfl | rfl <;> simp <;> omega
 ·have s1 : (2 * ((p : Int) - (r : Int)) - (p : Int)).sign = 0 := by
   have : 2 * ((p : Int) - (r : Int)) - (p : Int) = 0 := by omega
   rw [this]; rfl
  have d1 : decide (p ≤ 2 * r) = true := decide_eq_true (by omega)
  have d2 : decide (2 * r ≠ p) = false := decide_eq_false (by omega)
  rw [s1, d1, d2]
  rcases hm5 with rfl | rfl | rfl | rfl | rfl <;> simp <;> try omega
  by_cases hq : q % 2 = 1
  ·rw [if_pos (by omega)]; simp [hq]
  ·rw [if_neg (by omega)]; simp [hq]; omega
 ·have s1 : (2 * ((p : Int) - (r : Int)) - (p : Int)).sign = -1 := Int.sign_eq_neg_one_of_neg (by omega)
  have d1 : decide (p ≤ 2 * r) = true := decide_eq_true (by omega)
  have d2 : decide (2 * r ≠ p) = true := decide_eq_true (by omega)
  rw [s1, d1, d2]
  rcases hm5 with rfl | rfl | rfl | rfl | rfl <;> simp <;> omega
theorem zk2 {m : Int} (hm : isM m) {z e E : Int} (h : exR z.natAbs e E = false) : e < E ∧ pick m (decide (z < 0)) (zY z (e - E)) (2 * (z % 2 ^ (E - e).toNat) - 2 ^ (E - e).toNat).sign = TK m z e E := by
 unfold exR at h
 have h := of_decide_eq_false h
 have c : e < E := by
  rcases Int.lt_or_le e E with c | c
  ·exact c
  ·exfalso
   have e1 : (E - e).toNat = 0 := by omega
   rw [e1, Nat.pow_zero, Nat.mod_one] at h
   exact h rfl
 refine ⟨c, ?_⟩
 unfold TK R zY
 rw [if_neg (by omega), show (e - E).toNat = 0 by omega, show (-(e - E)).toNat = (E - e).toNat by omega, Nat.pow_zero, Nat.mul_one]
 generalize (E - e).toNat = k at *
 by_cases hz : z < 0
 ·obtain ⟨n, rfl⟩ : ∃ n : Nat, z = -(n : Int) := ⟨z.natAbs, by omega⟩
  have e1 : (-(n : Int)).natAbs = n := by omega
  rw [e1] at h ⊢
  rw [decide_eq_true hz]
  show _ = -((rnd m true n k : Nat) : Int)
  exact zk4 m hm n k h
 ·obtain ⟨n, rfl⟩ : ∃ n : Nat, z = (n : Int) := ⟨z.natAbs, by omega⟩
  have e1 : ((n : Int)).natAbs = n := by omega
  rw [e1] at h ⊢
  rw [decide_eq_false hz]
  show _ = ((rnd m false n k : Nat) : Int)
  exact zk5 m hm n k h
theorem zhp (e : Int) : mk 1 e = (false, [1], e) := by
 unfold mk
 have h : lw (1 : Int).natAbs = 0 := zcC rfl
 have hd : D 1 = [1] := by rw [zbV (by omega)]; simp [zN]
 rw [if_neg (by omega), h]
 show (false, D (1 / 1), e + 0) = (false, ([1] : List Int), e)
 rw [Nat.div_one, hd, Int.add_zero]
theorem zhP (e : Int) : zcs.f e = some (mk 1 e) := by
 unfold zcs.f
 rw [zhp]
theorem zh1 {z e : Int} (hb : bl z.natAbs ≤ 10000000000) (h1 : -10000000000000 ≤ e) (h2 : e ≤ 10000000000000) : zc8.f (mk z e).1 (mk z e).2.1 (mk z e).2.2 = some (mk z (e + -1)) := by
 unfold zc8.f
 rw [zeY z hb h1 h2 (by omega) (by omega)]
 rfl
theorem ziP {E : Int} (h1 : -1000000000 ≤ E) (h2 : E ≤ 1000000000) : wrap64 (-E) = -E := by unfold wrap64; omega
theorem zfy {z e : Int} : bl (zY z e).natAbs ≤ bl z.natAbs + 1 + e.toNat := by
 unfold zY
 by_cases c : 0 ≤ e
 ·rw [if_pos c, Int.natAbs_mul, Int.natAbs_pow]
  have := zbX z.natAbs e.toNat
  exact Nat.le_trans this (by omega)
 ·rw [if_neg c]
  have h1 := zea (decide (z < 0)) z.natAbs (-e).toNat
  rw [zep] at h1
  rw [h1, zaz]
  have h2 : z.natAbs / 2 ^ (-e).toNat + (if decide (z < 0) = true ∧ z.natAbs % 2 ^ (-e).toNat ≠ 0 then 1 else 0) ≤ z.natAbs / 2 ^ (-e).toNat + 1 := by split <;> omega
  have h3 := zbu h2
  have h4 := zfo (z.natAbs / 2 ^ (-e).toNat)
  have h5 := zcc z.natAbs (-e).toNat
  omega
theorem zi8 (z e : Int) (k : Nat) : al z (e + k) e = z * 2 ^ k := by
 unfold al; congr 2; omega
theorem zeE (z e : Int) : al z e e = z := by unfold al; rw [Int.sub_self]; simp
theorem zfj (a b e : Int) (k : Nat) : zl a e b (e + k) = mk (a + b * 2 ^ k) e := by
 rw [← zcn (m := e) (by omega) (by omega), zeE, zi8]
theorem zk3 (m : Int) (s : Bool) (F c : Int) : pick m s F c = if m = 5 then F else if m = 4 then F + 1 else if m = 3 then (if s = true then F + 1 else F) else if c < 0 then F else if c > 0 then F + 1 else if m = 2 then (if s = true then F else F + 1) else if F % 2 = 0 then F else F + 1 := rfl
theorem zjk (F : Int) : bl (F / 2).natAbs ≤ bl F.natAbs + 1 := by
 have := zfy (z := F) (e := -1)
 unfold zY at this
 rw [if_neg (by omega)] at this
 exact this
theorem zln {m : Int} {z e E F B S : Int} {k : Nat} (hb : bl z.natAbs ≤ 9000000) (h1 : -4000000 ≤ e) (h2 : e ≤ 4000000) (h3 : -4000000 ≤ E) (h4 : E ≤ 4000000) (hE : E = e + k) (hF : F = z / 2 ^ k) (s : Bool) (hB : B = if s = true then F else F + 1) (hS : S = if s = true then F + 1 else F) (u : Bool) (v : List Int) (w : Int) :
  Ev (fun q => zbi.j1 q m E (mk z e).1 (mk z e).2.1 (mk z e).2.2 u v w (mk F E).1 (mk F E).2.1 (mk F E).2.2 (mk (F + 1) E).1 (mk (F + 1) E).2.1 (mk (F + 1) E).2.2 (mk B E).1 (mk B E).2.1 (mk B E).2.2 (mk S E).1 (mk S E).2.1 (mk S E).2.2) (mk (pick m s F (2 * (z % 2 ^ k) - 2 ^ k).sign) E) := by
 have hFb : bl F.natAbs ≤ bl z.natAbs + 1 := by
  rcases Nat.eq_zero_or_pos k with h | h
  ·subst h; rw [hF, Int.pow_zero, Int.ediv_one]; omega
  ·have := zfy (z := z) (e := -(k : Int))
   unfold zY at this
   rw [if_neg (by omega), show (-(-(k : Int))).toNat = k by omega, ← hF] at this
   omega
 have hF1 : bl (F + 1).natAbs ≤ bl z.natAbs + 2 := by
  have h5 : (F + 1).natAbs ≤ F.natAbs + 1 := by omega
  have h6 := zbu h5
  have h7 := zfo F.natAbs
  omega
 have rz : Rg z e := ⟨by omega, by omega, by omega⟩
 have rF : Rg F E := ⟨by omega, by omega, by omega⟩
 have rF1 : Rg (F + 1) E := ⟨by omega, by omega, by omega⟩
 have hdm := Int.mul_ediv_add_emod z (2 ^ k)
 rw [← hF] at hdm
 have hr0 : 0 ≤ z % 2 ^ k := Int.emod_nonneg _ (by have := zej k; omega)
 have hr1 : z % 2 ^ k < 2 ^ k := Int.emod_lt_of_pos _ (zej k)
 have ez : z + -F * 2 ^ k = z % 2 ^ k := by
  rw [Int.neg_mul, Int.mul_comm]; omega
 have ez2 : -z + (F + 1) * 2 ^ k = 2 ^ k - z % 2 ^ k := by
  rw [Int.add_mul, Int.one_mul, Int.mul_comm F]; omega
 have s1 := zfX rz rF
 have s2 := zfX rF1 rz
 have a1 : zl z e (-F) E = mk (z % 2 ^ k) e := by rw [hE, zfj, ez]
 have a2 : zl (F + 1) E (-z) e = mk (2 ^ k - z % 2 ^ k) e := by rw [zeA, hE, zfj, ez2]
 rw [a1] at s1
 rw [a2] at s2
 clear ez ez2 a1 a2
 have kb : k ≤ 8000000 := by omega
 refine zh ?_
 simp only [zbi.j1]
 rw [zk3]
 by_cases c5 : m = 5
 ·rw [if_pos c5]; exact ze c5 (Ev.now _)
 rw [if_neg c5]
 refine zf c5 ?_
 by_cases c4 : m = 4
 ·rw [if_pos c4]; exact ze c4 (Ev.now _)
 rw [if_neg c4]
 refine zf c4 ?_
 by_cases c3 : m = 3
 ·rw [if_pos c3, ← hS]; exact ze c3 (Ev.now _)
 rw [if_neg c3]
 refine zf c3 ?_
 refine Ev.bind (s1) ?_; try dsimp only
 refine Ev.bind (s2) ?_; try dsimp only
 have rr : ∀ x : Int, 0 ≤ x → x ≤ 2 ^ k → bl x.natAbs ≤ k + 1 := by
  intro x hx hx2
  have h5 : x.natAbs ≤ 2 ^ k := by
   have h6 : ((2 ^ k : Nat) : Int) = 2 ^ k := by rw [Int.natCast_pow]; rfl
   omega
  refine zP (Nat.lt_of_le_of_lt h5 ?_)
  rw [Nat.pow_succ]
  have := zk k
  omega
 have x1 := rr (z % 2 ^ k) hr0 (by omega)
 have x2 := rr (2 ^ k - z % 2 ^ k) (by omega) (by omega)
 have cc := zlb (za := z % 2 ^ k) (ea := e) (zb := 2 ^ k - z % 2 ^ k) (eb := e) ⟨by omega, by omega, by omega⟩ ⟨by omega, by omega, by omega⟩
 have ec : zp (z % 2 ^ k) e (2 ^ k - z % 2 ^ k) e = (2 * (z % 2 ^ k) - 2 ^ k).sign := by
  rw [zjx]; congr 1; omega
 rw [ec] at cc
 refine Ev.bind (cc) ?_; try dsimp only
 by_cases c0 : (2 * (z % 2 ^ k) - 2 ^ k).sign < 0
 ·rw [if_pos c0]; exact ze c0 (Ev.now _)
 rw [if_neg c0]
 refine zf c0 ?_
 by_cases c1 : (2 * (z % 2 ^ k) - 2 ^ k).sign > 0
 ·rw [if_pos c1]; exact ze c1 (Ev.now _)
 rw [if_neg c1]
 refine zf c1 ?_
 by_cases c2 : m = 2
 ·rw [if_pos c2, ← hB]; exact ze c2 (Ev.now _)
 rw [if_neg c2]
 refine zf c2 ?_
 rw [ziP (by omega) (by omega)]
 refine zi (zeY F (by omega) (by omega) (by omega) (by omega) (by omega)) ?_; try dsimp only
 rw [show E + -E = 0 by omega]
 refine zi (zh1 (by omega) (by omega) (by omega)) ?_; try dsimp only
 refine Ev.bind (zhI (by omega) (by omega) (by omega)) ?_; try dsimp only
 refine zi (zh1 (by omega) (by omega) (by omega)) ?_; try dsimp only
 have hf : zY F (0 + -1) = F / 2 := rfl
 rw [hf]
 have hbh := zjk F
 refine Ev.bind (zfT _ _ _ _ (by omega)) ?_; try dsimp only
 have hs : (mk (F / 2) 0 = mk F (0 + -1)) ↔ F % 2 = 0 := by
  rw [zhn (m := -1) (by omega) (by omega)]
  have e1 : al (F / 2) 0 (-1) = F / 2 * 2 := by unfold al; rfl
  have e2 : al F (0 + -1) (-1) = F := by rw [Int.zero_add, zeE]
  rw [e1, e2]; omega
 by_cases c6 : F % 2 = 0
 ·rw [if_pos c6]; exact ze (decide_eq_true (hs.2 c6)) (Ev.now _)
 ·rw [if_neg c6]; exact zf (by rw [decide_eq_false (fun h => c6 (hs.1 h))]; simp) (Ev.now _)
theorem zhO {m : Int} (hm : isM m) {z e E : Int} (hz : z ≠ 0) (hb : bl z.natAbs ≤ 9000000) (h1 : -4000000 ≤ e) (h2 : e ≤ 4000000) (h3 : -4000000 ≤ E) (h4 : E ≤ 4000000) :
  Ev (fun q => zbi.f q m (mk z e).1 (mk z e).2.1 (mk z e).2.2 E) (mk (TK m z e E) E) := by
 have hFb := zfy (z := z) (e := e - E)
 unfold zbi.f
 rw [ziP (by omega) (by omega)]
 refine zi (zeY z (by omega) (by omega) (by omega) (by omega) (by omega)) ?_; try dsimp only
 rw [show e + -E = e - E by omega]
 refine Ev.bind (zhI (by omega) (by omega) (by omega)) ?_; try dsimp only
 generalize hF : zY z (e - E) = F at *
 refine zi (zeY F (by omega) (by omega) (by omega) (by omega) (by omega)) ?_; try dsimp only
 rw [Int.zero_add]
 refine Ev.bind (zfT F E z e (by omega)) ?_; try dsimp only
 have hx := zjW (z := z) (e := e) (E := E)
 rw [hF] at hx
 cases c : exR z.natAbs e E
 ·obtain ⟨hlt, hp⟩ := zk2 (m := m) hm c
  rw [hF] at hp
  have hn : ¬ (mk F E = mk z e) := fun h => by have := hx.2 h; rw [c] at this; cases this
  refine zf (by rw [decide_eq_false hn]; simp) ?_
  refine zi (zhP E) ?_; try dsimp only
  have hk : E = e + ((E - e).toNat : Nat) := by omega
  have rF : Rg F E := ⟨by omega, by omega, by omega⟩
  have r1 : Rg 1 E := ⟨by decide, by omega, by omega⟩
  have ha := zfO rF r1
  rw [zi6] at ha
  refine Ev.bind (ha) ?_; try dsimp only
  have hF2 : F = z / 2 ^ (E - e).toNat := by
   rw [← hF]; unfold zY
   rw [if_neg (by omega), show (-(e - E)).toNat = (E - e).toNat by omega]
  have hs : (mk z e).1 = decide (z < 0) := by unfold mk; rw [if_neg hz]
  have j1 := fun s B S hB hS => zln (m := m) (B := B) (S := S) hb h1 h2 h3 h4 hk hF2 s hB hS false [] 0
  rw [hs]
  by_cases hz2 : z < 0
  ·rw [decide_eq_true hz2] at hp ⊢
   refine ze rfl ?_
   have := j1 true F (F + 1) rfl rfl
   rw [hp, hs, decide_eq_true hz2] at this
   exact this
  ·rw [decide_eq_false hz2] at hp ⊢
   refine zf (by simp) ?_
   have := j1 false (F + 1) F rfl rfl
   rw [hp, hs, decide_eq_false hz2] at this
   exact this
 ·have hn := hx.1 c
  refine ze (decide_eq_true hn) (zg (Ev.now _) ?_)
  rw [zgu c]
def inw (m : Int) (s : Bool) : Bool := decide (m = 3) || (decide (m = 4) && s) || (decide (m = 5) && !s)
def zcK (f m : Int) (s : Bool) : Nat := (if inw m s = true then mo f * 2 ^ fb f - 1 else mo f * 2 ^ fb f) + sgn f s
theorem zlj {f : Int} (h : isF f) (s b : Bool) : Ev (fun k => zaF.j0 k f s b) (((if b = true then mo f * 2 ^ fb f - 1 else mo f * 2 ^ fb f) + sgn f s : Nat) : Int) := by
 have hp := zk (fb f)
 have hm := zeh h
 have hq : 1 ≤ mo f * 2 ^ fb f := Nat.mul_pos (by omega) hp
 have hil := zec h
 have hsp := zbT h
 have hsg : sgn f s ≤ sg f := by unfold sgn; split <;> omega
 refine zh ?_
 simp only [zaF.j0]
 cases b
 ·refine zf (by simp) ?_
  refine zi (zhK h s) ?_; try dsimp only
  exact Ev.now _
 ·refine ze rfl ?_
  refine zi (zhK h s) ?_; try dsimp only
  refine zg (Ev.now _) ?_
  rw [u64 (by omega) (by omega), if_pos rfl]
  omega
theorem zli {f : Int} (h : isF f) (m : Int) (s : Bool) : Ev (fun k => zaF.f k f m s) (zcK f m s : Int) := by
 have j := fun b => zlj h s b
 unfold zaF.f zcK
 by_cases c3 : m = 3
 ·refine ze c3 ?_
  have e : inw m s = true := by unfold inw; simp [c3]
  rw [e]; exact j true
 refine zf c3 ?_
 by_cases c4 : m = 4
 ·refine ze c4 ?_
  have e : inw m s = s := by unfold inw; simp [c4]
  rw [e]
  cases s
  ·exact zf (by simp) (zf (by omega) (j false))
  ·exact ze rfl (j true)
 refine zf c4 ?_
 by_cases c5 : m = 5
 ·refine ze c5 ?_
  have e : inw m s = !s := by unfold inw; simp [c5]
  rw [e]; exact j (!s)
 ·refine zf c5 ?_
  have e : inw m s = false := by unfold inw; simp [c3, c4, c5]
  rw [e]; exact j false
theorem zma {X : Nat} (h0 : X ≠ 0) (h : X < 18446744073709551616) : 0 < (D X).length ∧ (D X).length ≤ 2 ∧ rd (D X) 0 = ((X % 4294967296 : Nat) : Int) ∧ ((D X).length > 1 → rd (D X) 1 = ((X / 4294967296 : Nat) : Int)) ∧ ((D X).length ≤ 1 → X < 4294967296) := by
 have h1 : D X = ((X % 4294967296 : Nat) : Int) :: D (X / 4294967296) := zbV h0
 have h2 : (D (X / 4294967296)).length ≤ 1 := zbs (by omega)
 refine ⟨by rw [h1]; simp, by rw [h1]; simp; omega, by rw [h1]; rfl, ?_, ?_⟩
 ·intro h3
  have h4 : X / 4294967296 ≠ 0 := by
   intro h4
   rw [h1, h4, zN] at h3
   simp at h3
  rw [h1, zbV h4]
  show (((X / 4294967296 % 4294967296 : Nat)) : Int) = _
  omega
 ·intro h3
  rcases Nat.lt_or_ge X 4294967296 with h4 | h4
  ·exact h4
  ·exfalso
   have h5 : X / 4294967296 ≠ 0 := by omega
   rw [h1, zbV h5] at h3
   simp at h3
theorem zlh {f : Int} (h : isF f) {X : Nat} {U : Int} (hX : X < 2 ^ pr f) (hU : lo f ≤ U) (hU2 : (U - lo f).toNat ≤ mo f - 2) (hn : X < 2 ^ fb f → U = lo f) (l : List Int) (e : Int) (s : Bool) :
  Ev (fun k => zag.j4 k f s l e U (X : Int)) (((((U - lo f).toNat * 2 ^ fb f + X) + sgn f s : Nat) : Int), true) := by
 have hb := za6 h
 have hp := zk (fb f)
 have hpr := zaX h
 have h2 := ziz h
 have hl := zdL h
 have hm := zeh h
 have hil := zec h
 have hsp := zbT h
 have hpw := pfb h
 have hm2 := zcE h
 rw [hpr, Nat.pow_succ] at hX
 have hmm : (mo f - 2) * 2 ^ fb f + 2 ^ fb f * 2 = mo f * 2 ^ fb f := by
  rw [Nat.mul_comm (2 ^ fb f) 2, ← Nat.add_mul]; congr 1; omega
 have hle := Nat.mul_le_mul_right (2 ^ fb f) hU2
 refine zh ?_
 simp only [zag.j4]
 refine zi (zcN h) ?_; try dsimp only
 rw [zcR X (fb f) (by show fb f ≤ 64; omega)]
 refine ze (by omega) ?_
 by_cases c : X < 2 ^ fb f
 ·have hU3 := hn c
  have e0 : (U - lo f).toNat = 0 := by omega
  refine zf (by rw [Nat.div_eq_of_lt c]; omega) ?_
  have := zfR h s (q := 0) (r := X) (by omega)
  rw [show ((0 : Nat) : Int) = 0 from rfl] at this
  refine zi (this) ?_; try dsimp only
  refine zg (Ev.now _) ?_
  rw [e0]
 ·have hd : 0 < X / 2 ^ fb f := Nat.div_pos (by omega) hp
  refine ze (by omega) ?_
  refine zi (zcN h) ?_; try dsimp only
  refine ze (by omega) ?_
  refine zi (zcl h) ?_; try dsimp only
  rw [zdP h]
  have e1 : wrap64 (wrap64 (U - lo f) + 1) = (((U - lo f).toNat + 1 : Nat) : Int) := by unfold wrap64; omega
  have e2 : IntKind.u64.wrap ((X : Int) - ((2 ^ fb f : Nat) : Int)) = ((X - 2 ^ fb f : Nat) : Int) := by
   have : (X : Int) - ((2 ^ fb f : Nat) : Int) = ((X - 2 ^ fb f : Nat) : Int) := by omega
   rw [this]; exact u64 (by omega) (by omega)
  rw [e1, e2]
  have hs : ((U - lo f).toNat + 1) * 2 ^ fb f + (X - 2 ^ fb f) = (U - lo f).toNat * 2 ^ fb f + X := by
   rw [Nat.add_mul, Nat.one_mul]; omega
  have := zfR h s (q := (U - lo f).toNat + 1) (r := X - 2 ^ fb f) (by omega)
  rw [hs] at this
  refine zi (this) ?_; try dsimp only
  exact Ev.now _
theorem zmu {a b : Int} (h1 : -1000000000 ≤ a) (h2 : a ≤ 1000000000) (h3 : -1000000000 ≤ b) (h4 : b ≤ 1000000000) : wrap64 (wrap64 (a - b) - 1) = a - b - 1 := by unfold wrap64; omega
theorem zlg {f : Int} (h : isF f) {s : Bool} {l : List Int} {e : Int} (hd : Dy s l e) (h0 : l ≠ []) (hn : bl (V l) ≤ pr f) (he : lo f ≤ e) (hw : e + (bl (V l) : Nat) ≤ wd f) :
  Ev (fun k => zag.f k f s l e) (((enc f (V l) e + sgn f s : Nat) : Int), true) := by
 have hV : V l ≠ 0 := fun c => h0 ((zcZ hd.nm).1 c)
 have hl := zdL h
 have hwb := ziL h
 have hpr := zaX h
 have hfb := za6 h
 have hll : l.length ≤ 2 := by
  have h1 : (D (V l)).length ≤ 2 := zaj (by omega)
  rwa [hd.nm] at h1
 obtain ⟨e1, e2⟩ := zeN h hn he hw
 have hplt := zfJ hn he
 have hu := ziB hn he
 have hul := ziA f (V l) e
 have hsg : (sv s (V l)).sign ≠ 0 := by rw [zb9 hV]; split <;> omega
 have htop : top (sv s (V l)) e = e + (bl (V l) : Nat) := by unfold top; rw [if_neg (fun h => hV (zbb.1 h)), zaz]
 have ht := ze3 hd (by omega) (by omega) (by omega)
 rw [htop] at ht
 have hlen := zbS hd.nm (by omega)
 have h2 := ziz h
 have hun : zq f (V l) e = max (e + (bl (V l) : Nat) - (pr f : Nat)) (lo f) := rfl
 have hj := zlh h (X := V l * 2 ^ (e - zq f (V l) e).toNat) (U := zq f (V l) e) hplt hul e2 (by
  intro hx
  have h3 : bl (V l * 2 ^ (e - zq f (V l) e).toNat) ≤ fb f := zP hx
  rw [zbJ hV] at h3
  omega) l e s
 have hup := zel hd.nm.dg (by omega) (e - zq f (V l) e).toNat (by omega)
 have hX0 : V l * 2 ^ (e - zq f (V l) e).toNat ≠ 0 := by
  have := Nat.mul_pos (Nat.pos_of_ne_zero hV) (zk (e - zq f (V l) e).toNat)
  omega
 have hpf := zk (fb f)
 obtain ⟨d1, d2, d3, d4, d5⟩ := zma hX0 (by omega)
 have hf : enc f (V l) e = (zq f (V l) e - lo f).toNat * 2 ^ fb f + V l * 2 ^ (e - zq f (V l) e).toNat := rfl
 rw [← hf] at hj
 have last : Ev (fun k => zag.j3 k f s l e (zq f (V l) e)) (((enc f (V l) e + sgn f s : Nat) : Int), true) := by
  refine zh ?_
  simp only [zag.j3]
  have ew : wrap64 (e - zq f (V l) e) = ((e - zq f (V l) e).toNat : Int) := by unfold wrap64; omega
  rw [ew]
  clear ew
  refine Ev.bind (hup) ?_; try dsimp only
  clear hf e1
  generalize hX : V l * 2 ^ (e - zq f (V l) e).toNat = X at *
  have hXl : X < 18446744073709551616 := by omega
  refine ze (by omega) ?_
  by_cases c : (D X).length > 1
  ·have x1 := d4 c
   have y0 : IntKind.u64.wrap ((X % 4294967296 : Nat) : Int) = ((X % 4294967296 : Nat) : Int) := u64 (by omega) (by omega)
   have y1 : IntKind.u64.wrap ((X / 4294967296 : Nat) : Int) = ((X / 4294967296 : Nat) : Int) := u64 (by omega) (by omega)
   have y2 : IntKind.u64.wrap (((X / 4294967296 : Nat) : Int) * 4294967296) = ((X / 4294967296 * 4294967296 : Nat) : Int) := by
    rw [show ((X / 4294967296 : Nat) : Int) * 4294967296 = ((X / 4294967296 * 4294967296 : Nat) : Int) by omega]
    exact u64 (by omega) (by omega)
   have y3 : IntKind.u64.wrap (((X % 4294967296 : Nat) : Int) + ((X / 4294967296 * 4294967296 : Nat) : Int)) = (X : Int) := by
    rw [show ((X % 4294967296 : Nat) : Int) + ((X / 4294967296 * 4294967296 : Nat) : Int) = (X : Int) by omega]
    exact u64 (by omega) (by omega)
   refine ze (by omega) (ze (by omega) ?_)
   rw [d3, x1, y0, y1, y2, y3]
   exact hj
  ·have x1 := d5 (by omega)
   have y0 : IntKind.u64.wrap ((X % 4294967296 : Nat) : Int) = (X : Int) := by
    rw [show ((X % 4294967296 : Nat) : Int) = (X : Int) by omega]
    exact u64 (by omega) (by omega)
   refine zf (by omega) ?_
   rw [d3, y0]
   exact hj
 have w1 : wrap64 ((fb f : Int) + 1) = (fb f : Int) + 1 := by unfold wrap64; omega
 have w2 : wrap64 (wrap64 (e + (bl (V l) : Nat) - (fb f : Int)) - 1) = e + (bl (V l) : Nat) - (fb f : Int) - 1 := by
  clear w1; exact zmu (by omega) (by omega) (by omega) (by omega)
 unfold zag.f
 refine zi (zek hd) ?_; try dsimp only
 refine zf hsg ?_
 refine Ev.bind (ht) ?_; try dsimp only
 refine zi (zhR h) ?_; try dsimp only
 refine zf (by clear w1 w2; omega) ?_
 refine zi (zcl h) ?_; try dsimp only
 refine zf (by clear w1 w2; omega) ?_
 refine Ev.bind (hlen) ?_; try dsimp only
 refine zi (zcN h) ?_; try dsimp only
 rw [w1]
 refine zf (by clear w1 w2; omega) ?_
 refine zi (zcN h) ?_; try dsimp only
 refine zi (zcl h) ?_; try dsimp only
 rw [w2]
 clear w1 w2
 by_cases c : e + (bl (V l) : Nat) - (fb f : Int) - 1 < lo f
 ·refine ze c ?_
  refine zi (zcl h) ?_; try dsimp only
  have : lo f = zq f (V l) e := by omega
  rw [this]
  exact last
 ·refine zf c ?_
  have : e + (bl (V l) : Nat) - (fb f : Int) - 1 = zq f (V l) e := by omega
  rw [this]
  exact last
def zbD (f : Int) (n : Nat) (e : Int) : Nat := enc f (n / 2 ^ lw n) (e + (lw n : Nat))
def zj (f : Int) (n : Nat) (e : Int) : Int := max (e + (bl n : Nat) - (pr f : Nat)) (lo f)
def zam (f m : Int) (s : Bool) (n : Nat) (e : Int) : Int × Int :=
 let q := R m s n e (zj f n e)
 if (bl q : Int) + zj f n e > wd f then ((zcK f m s : Int), 20)
 else ((((if q = 0 then 0 else zbD f q (zj f n e)) + sgn f s : Nat) : Int),
  if exR n e (zj f n e) = true then 0
  else if (bl (R m s n e (e + (bl n : Nat) - (pr f : Nat))) : Int) + (e + (bl n : Nat) - (pr f : Nat)) < lo f + (pr f : Nat) then 24 else 16)
theorem zeu {m : Int} {s : Bool} {n : Nat} {e E : Int} {p : Nat} (h : e + (bl n : Nat) - (p : Nat) ≤ E) : R m s n e E ≤ 2 ^ p := by
 have h1 := zac n
 unfold R
 by_cases c : E ≤ e
 ·have e1 : (E - e).toNat = 0 := by omega
  rw [e1, zdp]
  have h2 : n * 2 ^ (e - E).toNat < 2 ^ bl n * 2 ^ (e - E).toNat := Nat.mul_lt_mul_of_pos_right h1 (zk _)
  rw [← Nat.pow_add] at h2
  exact Nat.le_trans (Nat.le_of_lt h2) (Nat.pow_le_pow_right (by omega) (by omega))
 ·have e1 : (e - E).toNat = 0 := by omega
  rw [e1, Nat.pow_zero, Nat.mul_one]
  have h3 : n / 2 ^ (E - e).toNat < 2 ^ p := by
   rw [Nat.div_lt_iff_lt_mul (zk _), ← Nat.pow_add]
   exact Nat.lt_of_lt_of_le h1 (Nat.pow_le_pow_right (by omega) (by omega))
  unfold rnd
  split <;> omega
theorem zfH {q p : Nat} (h0 : q ≠ 0) (h : q ≤ 2 ^ p) : bl (q / 2 ^ lw q) ≤ p ∨ p = 0 := by
 rcases Nat.eq_zero_or_pos p with hp | hp
 ·exact .inr hp
 left
 rcases Nat.lt_or_ge q (2 ^ p) with c | c
 ·exact zP (Nat.lt_of_le_of_lt (Nat.div_le_self _ _) c)
 ·have e : q = 2 ^ p := by omega
  have hw : lw q = p := zee ⟨0, by rw [e]; omega⟩
  rw [hw, e, Nat.div_self (zk p)]
  have : bl 1 = 1 := by decide
  omega
theorem zi2 {f m : Int} {s : Bool} {n : Nat} {e : Int} (h : isF f) (hn : n ≠ 0) (hq : R m s n e (zj f n e) = 0) : zj f n e = lo f := by
 have hpr := zaX h
 unfold zj at *
 rcases Int.le_total (e + (bl n : Nat) - (pr f : Nat)) (lo f) with c | c
 ·omega
 ·exfalso
  have h1 := (zgs (m := m) (s := s) (n := n) (e := e) (E := max (e + (bl n : Nat) - (pr f : Nat)) (lo f)) hn (by omega)).1
  rw [hq] at h1
  have b0 : bl 0 = 0 := zbv
  rw [b0] at h1
  omega
theorem zfc {n : Nat} (h : n ≠ 0) : bl (n / 2 ^ lw n) + lw n = bl n := by
 have := zdk h
 rw [zcc]; omega
theorem zjT {f m : Int} {s : Bool} {n : Nat} {e : Int} (h : isF f) (hq : R m s n e (zj f n e) ≠ 0) (hw : ¬ ((bl (R m s n e (zj f n e)) : Int) + zj f n e > wd f)) :
  bl (R m s n e (zj f n e) / 2 ^ lw (R m s n e (zj f n e))) ≤ pr f ∧ lo f ≤ zj f n e + (lw (R m s n e (zj f n e)) : Nat) ∧ zj f n e + (lw (R m s n e (zj f n e)) : Nat) + (bl (R m s n e (zj f n e) / 2 ^ lw (R m s n e (zj f n e))) : Nat) ≤ wd f := by
 have hpr := zaX h
 have h1 : R m s n e (zj f n e) ≤ 2 ^ pr f := zeu (by unfold zj; omega)
 have h2 := (zfH hq h1).resolve_right (by omega)
 have h3 := zfc hq
 refine ⟨h2, by unfold zj; omega, by omega⟩
theorem zev (m z e E : Int) : (TK m z e E).natAbs = R m (decide (z < 0)) z.natAbs e E := by unfold TK; exact zaz _ _
theorem zew (m z e E : Int) : TK m z e E = 0 ↔ R m (decide (z < 0)) z.natAbs e E = 0 := by unfold TK; exact zbb
theorem zl7 (m z e E : Int) : top (TK m z e E) E = if R m (decide (z < 0)) z.natAbs e E = 0 then 0 else E + (bl (R m (decide (z < 0)) z.natAbs e E) : Nat) := by
 unfold top
 by_cases c : R m (decide (z < 0)) z.natAbs e E = 0
 ·rw [if_pos c, if_pos ((zew m z e E).2 c)]
 ·rw [if_neg c, if_neg (fun h => c ((zew m z e E).1 h)), zev]
theorem zgv {m z e E : Int} : (mk z e = mk (TK m z e E) E) ↔ exR z.natAbs e E = true := by
 constructor
 ·intro h
  unfold exR
  apply decide_eq_true
  by_cases c : E ≤ e
  ·have e1 : (E - e).toNat = 0 := by omega
   rw [e1, Nat.pow_zero, Nat.mod_one]
  ·have hE : E = e + ((E - e).toNat : Nat) := by omega
   rw [hE, ← zaI, ← hE] at h
   have h1 := zfD h
   have h2 : (2 ^ (E - e).toNat : Int) ∣ z := ⟨TK m z e E, by rw [Int.mul_comm]; exact h1⟩
   have h3 : ((2 ^ (E - e).toNat : Nat) : Int) ∣ z := by rw [Int.natCast_pow]; exact h2
   exact Nat.mod_eq_zero_of_dvd (Int.ofNat_dvd_left.1 h3)
 ·intro h; exact (zgu h).symm
theorem zll {f m : Int} (h : isF f) (hm : isM m) {z e : Int} (hz : z ≠ 0) (hb : bl z.natAbs ≤ 3000000) (h1 : -900000 ≤ e) (h2 : e ≤ 900000) :
  Ev (fun k => zaB.j1 k f m (mk z e).1 (mk z e).2.1 (mk z e).2.2 (pr f : Nat) (e + (bl z.natAbs : Nat) - (pr f : Nat)) (zj f z.natAbs e)) (zam f m (decide (z < 0)) z.natAbs e) := by
 have hl := zdL h
 have hwb := ziL h
 have hpr := zaX h
 have hfb := za6 h
 have hu : zj f z.natAbs e = max (e + (bl z.natAbs : Nat) - (pr f : Nat)) (lo f) := rfl
 have t1 := zhO hm hz (e := e) (E := zj f z.natAbs e) (by omega) (by omega) (by omega) (by omega) (by omega)
 have t2 := zhO hm hz (e := e) (E := e + (bl z.natAbs : Nat) - (pr f : Nat)) (by omega) (by omega) (by omega) (by omega) (by omega)
 have hq : R m (decide (z < 0)) z.natAbs e (zj f z.natAbs e) ≤ 2 ^ pr f := zeu (by omega)
 have hqb : bl (R m (decide (z < 0)) z.natAbs e (zj f z.natAbs e)) ≤ pr f + 1 := zP (Nat.lt_of_le_of_lt hq (by rw [Nat.pow_succ]; have := zk (pr f); omega))
 have hq2 : R m (decide (z < 0)) z.natAbs e (e + (bl z.natAbs : Nat) - (pr f : Nat)) ≤ 2 ^ pr f := zeu (by omega)
 have hqb2 : bl (R m (decide (z < 0)) z.natAbs e (e + (bl z.natAbs : Nat) - (pr f : Nat))) ≤ pr f + 1 := zP (Nat.lt_of_le_of_lt hq2 (by rw [Nat.pow_succ]; have := zk (pr f); omega))
 have hza : z.natAbs ≠ 0 := by omega
 have hfine := (zgs (m := m) (s := decide (z < 0)) (n := z.natAbs) (e := e) (E := e + (bl z.natAbs : Nat) - (pr f : Nat)) hza (by omega)).1
 have tp1 := ze0 (z := TK m z e (zj f z.natAbs e)) (e := zj f z.natAbs e) ⟨by rw [zev]; omega, by omega, by omega⟩
 have tp2 := ze0 (z := TK m z e (e + (bl z.natAbs : Nat) - (pr f : Nat))) (e := e + (bl z.natAbs : Nat) - (pr f : Nat)) ⟨by rw [zev]; omega, by omega, by omega⟩
 rw [zl7] at tp1 tp2
 have hs : (mk z e).1 = decide (z < 0) := by unfold mk; rw [if_neg hz]
 have hsm := zfT z e (TK m z e (zj f z.natAbs e)) (zj f z.natAbs e) (by omega)
 have hok := fun hq hw => zjT (f := f) (m := m) (s := decide (z < 0)) (n := z.natAbs) (e := e) h hq hw
 have hz0 := fun hq => zi2 (f := f) (m := m) (s := decide (z < 0)) (n := z.natAbs) (e := e) h hza hq
 have eRS : zam f m (decide (z < 0)) z.natAbs e = if (bl (R m (decide (z < 0)) z.natAbs e (zj f z.natAbs e)) : Int) + zj f z.natAbs e > wd f then ((zcK f m (decide (z < 0)) : Int), 20)
  else ((((if R m (decide (z < 0)) z.natAbs e (zj f z.natAbs e) = 0 then 0 else zbD f (R m (decide (z < 0)) z.natAbs e (zj f z.natAbs e)) (zj f z.natAbs e)) + sgn f (decide (z < 0)) : Nat) : Int),
  if exR z.natAbs e (zj f z.natAbs e) = true then 0
  else if (bl (R m (decide (z < 0)) z.natAbs e (e + (bl z.natAbs : Nat) - (pr f : Nat))) : Int) + (e + (bl z.natAbs : Nat) - (pr f : Nat)) < lo f + (pr f : Nat) then 24 else 16) := rfl
 rw [eRS]
 clear eRS
 refine zh ?_
 simp only [zaB.j1]
 refine Ev.bind (t1) ?_; try dsimp only
 refine Ev.bind (tp1) ?_; try dsimp only
 refine zi (zhR h) ?_; try dsimp only
 have cT : ((if R m (decide (z < 0)) z.natAbs e (zj f z.natAbs e) = 0 then 0 else zj f z.natAbs e + (bl (R m (decide (z < 0)) z.natAbs e (zj f z.natAbs e)) : Nat)) > wd f) ↔ ((bl (R m (decide (z < 0)) z.natAbs e (zj f z.natAbs e)) : Int) + zj f z.natAbs e > wd f) := by
  by_cases c : R m (decide (z < 0)) z.natAbs e (zj f z.natAbs e) = 0
  ·have := hz0 c
   have b0 : bl 0 = 0 := zbv
   rw [if_pos c, c, b0]; omega
  ·rw [if_neg c]; omega
 by_cases c : ((bl (R m (decide (z < 0)) z.natAbs e (zj f z.natAbs e)) : Int) + zj f z.natAbs e > wd f)
 ·rw [if_pos c]
  refine ze (cT.2 c) ?_
  rw [hs]
  refine Ev.bind (zli h m (decide (z < 0))) ?_; try dsimp only
  exact Ev.now _
 rw [if_neg c]
 refine zf (fun h => c (cT.1 h)) ?_
 clear cT
 have hword : Ev (fun k => zag.f k f false (mk (TK m z e (zj f z.natAbs e)) (zj f z.natAbs e)).2.1 (mk (TK m z e (zj f z.natAbs e)) (zj f z.natAbs e)).2.2) ((((if R m (decide (z < 0)) z.natAbs e (zj f z.natAbs e) = 0 then 0 else zbD f (R m (decide (z < 0)) z.natAbs e (zj f z.natAbs e)) (zj f z.natAbs e)) : Nat) : Int), true) ∧ (if R m (decide (z < 0)) z.natAbs e (zj f z.natAbs e) = 0 then 0 else zbD f (R m (decide (z < 0)) z.natAbs e (zj f z.natAbs e)) (zj f z.natAbs e)) < sg f := by
  have hab := zev m z e (zj f z.natAbs e)
  have hil := zec h
  have hp := zk (fb f)
  by_cases cq : R m (decide (z < 0)) z.natAbs e (zj f z.natAbs e) = 0
  ·rw [if_pos cq]
   refine ⟨?_, (zbT h).1⟩
   have : TK m z e (zj f z.natAbs e) = 0 := (zew m z e _).2 cq
   rw [this, zkE]
   unfold zag.f
   exact zi (a := 0) rfl (ze rfl (Ev.now _))
  ·rw [if_neg cq]
   obtain ⟨o1, o2, o3⟩ := hok cq c
   have hT : TK m z e (zj f z.natAbs e) ≠ 0 := fun h => cq ((zew m z e _).1 h)
   have hmk : mk (TK m z e (zj f z.natAbs e)) (zj f z.natAbs e) = (decide (TK m z e (zj f z.natAbs e) < 0), D (R m (decide (z < 0)) z.natAbs e (zj f z.natAbs e) / 2 ^ lw (R m (decide (z < 0)) z.natAbs e (zj f z.natAbs e))), zj f z.natAbs e + (lw (R m (decide (z < 0)) z.natAbs e (zj f z.natAbs e)) : Nat)) := by
    unfold mk; rw [if_neg hT, hab]
   have hdy := zH (TK m z e (zj f z.natAbs e)) (zj f z.natAbs e)
   rw [hmk] at hdy ⊢
   have hne : D (R m (decide (z < 0)) z.natAbs e (zj f z.natAbs e) / 2 ^ lw (R m (decide (z < 0)) z.natAbs e (zj f z.natAbs e))) ≠ [] := by
    intro h0
    have h1 : V (D (R m (decide (z < 0)) z.natAbs e (zj f z.natAbs e) / 2 ^ lw (R m (decide (z < 0)) z.natAbs e (zj f z.natAbs e)))) = 0 := by rw [h0]; rfl
    rw [V_D] at h1
    have h2 := zfc cq
    rw [h1, zbv] at h2
    have := zdk cq
    omega
   have hd0 : Dy false (D (R m (decide (z < 0)) z.natAbs e (zj f z.natAbs e) / 2 ^ lw (R m (decide (z < 0)) z.natAbs e (zj f z.natAbs e)))) (zj f z.natAbs e + (lw (R m (decide (z < 0)) z.natAbs e (zj f z.natAbs e)) : Nat)) := ⟨hdy.nm, fun h => absurd h hne, hdy.odd⟩
   have := zlg h hd0 hne (by rw [V_D]; exact o1) o2 (by rw [V_D]; exact o3)
   rw [V_D] at this
   have hlt := (zeN h (n := R m (decide (z < 0)) z.natAbs e (zj f z.natAbs e) / 2 ^ lw (R m (decide (z < 0)) z.natAbs e (zj f z.natAbs e))) o1 o2 o3).1
   refine ⟨zg this ?_, ?_⟩
   ·show ((((enc f _ _ + 0 : Nat)) : Int), true) = _
    rw [Nat.add_zero]; rfl
   ·unfold zbD; omega
 have hab2 : zd2.f (mk (TK m z e (zj f z.natAbs e)) (zj f z.natAbs e)).1 (mk (TK m z e (zj f z.natAbs e)) (zj f z.natAbs e)).2.1 (mk (TK m z e (zj f z.natAbs e)) (zj f z.natAbs e)).2.2 = some (false, (mk (TK m z e (zj f z.natAbs e)) (zj f z.natAbs e)).2.1, (mk (TK m z e (zj f z.natAbs e)) (zj f z.natAbs e)).2.2) := rfl
 refine zi (hab2) ?_; try dsimp only
 refine Ev.bind (hword.1) ?_; try dsimp only
 rw [hs]
 refine zi (zlm h _ _) ?_; try dsimp only
 rw [Nat.mod_eq_of_lt hword.2]
 rw [hs] at hsm t2
 refine Ev.bind (hsm) ?_; try dsimp only
 cases cx : exR z.natAbs e (zj f z.natAbs e)
 ·refine zf (by rw [decide_eq_false (fun h => by have := zgv.1 h; rw [cx] at this; cases this)]; simp) ?_
  rw [if_neg Bool.false_ne_true]
  refine Ev.bind (t2) ?_; try dsimp only
  refine Ev.bind (tp2) ?_; try dsimp only
  refine zi (zcl h) ?_; try dsimp only
  have w1 : wrap64 (lo f + ((pr f : Nat) : Int)) = lo f + ((pr f : Nat) : Int) := by unfold wrap64; omega
  rw [w1]
  clear w1
  have hne : R m (decide (z < 0)) z.natAbs e (e + (bl z.natAbs : Nat) - (pr f : Nat)) ≠ 0 := by
   intro h0
   rw [h0, zbv] at hfine
   omega
  rw [if_neg hne]
  by_cases cu : (bl (R m (decide (z < 0)) z.natAbs e (e + (bl z.natAbs : Nat) - (pr f : Nat))) : Int) + (e + (bl z.natAbs : Nat) - (pr f : Nat)) < lo f + (pr f : Nat)
  ·rw [if_pos cu]
   refine ze (by omega) ?_
   exact Ev.now _
  ·rw [if_neg cu]
   refine zf (by omega) ?_
   exact Ev.now _
 ·refine ze (decide_eq_true (zgv.2 cx)) ?_
  rw [if_pos rfl]
  exact Ev.now _
theorem zhN {f m : Int} (h : isF f) (hm : isM m) {z e : Int} (hz : z ≠ 0) (hb : bl z.natAbs ≤ 3000000) (h1 : -900000 ≤ e) (h2 : e ≤ 900000) :
  Ev (fun k => zaB.f k f m (mk z e).1 (mk z e).2.1 (mk z e).2.2) (zam f m (decide (z < 0)) z.natAbs e) := by
 have hl := zdL h
 have hpr := zaX h
 have hfb := za6 h
 have j := zll h hm hz hb h1 h2
 have tp := ze0 (z := z) (e := e) ⟨by omega, by omega, by omega⟩
 have et : top z e = e + (bl z.natAbs : Nat) := by unfold top; rw [if_neg hz]
 rw [et] at tp
 have hu : zj f z.natAbs e = max (e + (bl z.natAbs : Nat) - (pr f : Nat)) (lo f) := rfl
 unfold zaB.f
 refine zi (zfV z e) ?_; try dsimp only
 refine zf (fun h => hz (by rcases zaZ z with ⟨_, c⟩ | ⟨c, _⟩ | ⟨_, c⟩ <;> omega)) ?_
 refine zi (zcN h) ?_; try dsimp only
 refine Ev.bind (tp) ?_; try dsimp only
 refine zi (zcl h) ?_; try dsimp only
 have w1 : wrap64 ((fb f : Int) + 1) = ((pr f : Nat) : Int) := by unfold wrap64; omega
 rw [w1]
 clear w1
 have w2 : wrap64 (e + ((bl z.natAbs : Nat) : Int) - ((pr f : Nat) : Int)) = e + ((bl z.natAbs : Nat) : Int) - ((pr f : Nat) : Int) := by unfold wrap64; omega
 rw [w2]
 clear w2
 by_cases c : e + ((bl z.natAbs : Nat) : Int) - ((pr f : Nat) : Int) < lo f
 ·refine ze c ?_
  refine zi (zcl h) ?_; try dsimp only
  have : lo f = zj f z.natAbs e := by omega
  rw [this]
  exact j
 ·refine zf c ?_
  have : zj f z.natAbs e = e + ((bl z.natAbs : Nat) : Int) - ((pr f : Nat) : Int) := by omega
  rw [this] at j
  exact j
def bN (b : Bool) : Nat := if b = true then 1 else 0
theorem zlF {m : Int} {s : Bool} {n k n' k' : Nat} (h1 : n / 2 ^ k = n' / 2 ^ k') (h2 : 2 ^ k ≤ 2 * (n % 2 ^ k) ↔ 2 ^ k' ≤ 2 * (n' % 2 ^ k')) (h3 : 2 * (n % 2 ^ k) % 2 ^ k = 0 ↔ 2 * (n' % 2 ^ k') % 2 ^ k' = 0) : rnd m s n k = rnd m s n' k' := by
 unfold rnd
 rw [h1, decide_eq_decide.2 h2, decide_eq_decide.2 (show 2 * (n % 2 ^ k) % 2 ^ k ≠ 0 ↔ 2 * (n' % 2 ^ k') % 2 ^ k' ≠ 0 from not_congr h3)]
theorem zg3 {x M : Nat} (h : x < M) : 2 * x % M = 0 ↔ x = 0 ∨ 2 * x = M := by
 by_cases c : 2 * x < M
 ·rw [Nat.mod_eq_of_lt c]; omega
 ·have : 2 * x % M = 2 * x - M := by rw [Nat.mod_eq_sub_mod (by omega), Nat.mod_eq_of_lt (by omega)]
  rw [this]; omega
theorem zen {H j r d : Nat} (hr : r < 2 ^ j) : (H * 2 ^ j + r) / 2 ^ (d + j) = H / 2 ^ d ∧ (H * 2 ^ j + r) % 2 ^ (d + j) = H % 2 ^ d * 2 ^ j + r := by
 have := zdq (X := H) (P := 2 ^ j) (Q := 2 ^ d) (c := r) (zk j) hr
 rw [Nat.pow_add, Nat.mul_comm (2 ^ d)]
 exact ⟨this.1, by rw [this.2, Nat.mul_comm]⟩
theorem zlH (m : Int) (s : Bool) {H j r d : Nat} (hr : r < 2 ^ j) (hd : 1 ≤ d) : rnd m s (H * 2 ^ j + r) (d + j) = rnd m s (2 * H + bN (decide (r ≠ 0))) (d + 1) := by
 have hb : bN (decide (r ≠ 0)) < 2 ^ 1 := by unfold bN; split <;> omega
 have hb0 : bN (decide (r ≠ 0)) = 0 ↔ r = 0 := by
  unfold bN
  by_cases c : r = 0
  ·simp [c]
  ·simp [c]
 have e0 : 2 * H + bN (decide (r ≠ 0)) = H * 2 ^ 1 + bN (decide (r ≠ 0)) := by omega
 rw [e0]
 generalize bN (decide (r ≠ 0)) = b at *
 obtain ⟨a1, a2⟩ := zen (H := H) (d := d) hr
 obtain ⟨b1, b2⟩ := zen (H := H) (d := d) hb
 have hh := Nat.mod_lt H (zk d)
 have hj := zk j
 obtain ⟨d', rfl⟩ : ∃ d', d = d' + 1 := ⟨d - 1, by omega⟩
 have he : 2 ^ (d' + 1) = 2 * 2 ^ d' := by rw [Nat.pow_succ, Nat.mul_comm]
 refine zlF (by rw [a1, b1]) ?_ ?_
 ·rw [a2, b2, Nat.pow_add 2 (d' + 1) j, Nat.pow_add 2 (d' + 1) 1, he]
  rw [he] at hh
  generalize H % (2 * 2 ^ d') = h at *
  generalize 2 ^ d' = p at *
  generalize 2 ^ j = q at *
  constructor
  ·intro h1
   rcases Nat.lt_or_ge h p with c | c
   ·exfalso
    have h2 : (h + 1) * q ≤ p * q := Nat.mul_le_mul_right _ c
    rw [Nat.add_mul, Nat.one_mul] at h2
    rw [Nat.mul_assoc] at h1
    omega
   ·omega
  ·intro h1
   have h2 : p * q ≤ h * q := Nat.mul_le_mul_right _ (by omega)
   rw [Nat.mul_assoc]; omega
 ·have l1 : H % 2 ^ (d' + 1) * 2 ^ j + r < 2 ^ (d' + 1 + j) := by
   rw [Nat.pow_add 2 (d' + 1) j]
   have h2 : (H % 2 ^ (d' + 1) + 1) * 2 ^ j ≤ 2 ^ (d' + 1) * 2 ^ j := Nat.mul_le_mul_right _ hh
   rw [Nat.add_mul, Nat.one_mul] at h2
   omega
  have l2 : H % 2 ^ (d' + 1) * 2 ^ 1 + b < 2 ^ (d' + 1 + 1) := by rw [Nat.pow_add 2 (d' + 1) 1]; omega
  rw [a2, b2, zg3 l1, zg3 l2, Nat.pow_add 2 (d' + 1) j, Nat.pow_add 2 (d' + 1) 1, he]
  rw [he] at hh
  generalize H % (2 * 2 ^ d') = h at *
  generalize 2 ^ d' = p at *
  generalize 2 ^ j = q at *
  constructor
  ·rintro (h1 | h1)
   ·have h2 : h * q = 0 := by omega
    rcases Nat.mul_eq_zero.1 h2 with h3 | h3
    ·left; have := hb0.2 (by omega); omega
    ·omega
   ·right
    rw [Nat.mul_assoc] at h1
    rcases Nat.lt_trichotomy h p with c | c | c
    ·have h2 : (h + 1) * q ≤ p * q := Nat.mul_le_mul_right _ c
     rw [Nat.add_mul, Nat.one_mul] at h2
     omega
    ·subst c
     have := hb0.2 (by omega)
     omega
    ·have h2 : (p + 1) * q ≤ h * q := Nat.mul_le_mul_right _ c
     rw [Nat.add_mul, Nat.one_mul] at h2
     omega
  ·rintro (h1 | h1)
   ·left
    have h2 : h = 0 := by omega
    have h3 := hb0.1 (by omega)
    rw [h2, h3]; omega
   ·right
    have h2 : h = p := by omega
    have h3 := hb0.1 (by omega)
    rw [h2, h3, Nat.mul_assoc]; omega
theorem zjY {H j r d : Nat} (hr : r < 2 ^ j) : (H * 2 ^ j + r) % 2 ^ (d + j) = 0 ↔ (2 * H + bN (decide (r ≠ 0))) % 2 ^ (d + 1) = 0 := by
 have hb : bN (decide (r ≠ 0)) < 2 ^ 1 := by unfold bN; split <;> omega
 have hb0 : bN (decide (r ≠ 0)) = 0 ↔ r = 0 := by
  unfold bN
  by_cases c : r = 0
  ·simp [c]
  ·simp [c]
 have e0 : 2 * H + bN (decide (r ≠ 0)) = H * 2 ^ 1 + bN (decide (r ≠ 0)) := by omega
 rw [e0]
 generalize bN (decide (r ≠ 0)) = b at *
 rw [(zen (H := H) (d := d) hr).2, (zen (H := H) (d := d) hb).2]
 have hj := zk j
 constructor
 ·intro h
  have h2 : H % 2 ^ d * 2 ^ j = 0 := by omega
  rcases Nat.mul_eq_zero.1 h2 with h3 | h3
  ·have := hb0.2 (by omega); omega
  ·omega
 ·intro h
  have h2 : H % 2 ^ d = 0 := by omega
  have h3 := hb0.1 (by omega)
  rw [h2, h3]; omega
def ze4 (f m : Int) (s : Bool) (T : Int) (U : Int → Nat) (X : Int → Bool) : Int × Int :=
 if (bl (U (max (T - (pr f : Nat)) (lo f))) : Int) + max (T - (pr f : Nat)) (lo f) > wd f then ((zcK f m s : Int), 20)
 else ((((if U (max (T - (pr f : Nat)) (lo f)) = 0 then 0 else zbD f (U (max (T - (pr f : Nat)) (lo f))) (max (T - (pr f : Nat)) (lo f))) + sgn f s : Nat) : Int),
  if X (max (T - (pr f : Nat)) (lo f)) = true then 0
  else if (bl (U (T - (pr f : Nat))) : Int) + (T - (pr f : Nat)) < lo f + (pr f : Nat) then 24 else 16)
theorem zh7 (f m : Int) (s : Bool) (n : Nat) (e : Int) : ze4 f m s (e + (bl n : Nat)) (R m s n e) (exR n e) = zam f m s n e := rfl
theorem zlI {f m : Int} {s : Bool} {T : Int} {U U' : Int → Nat} {X X' : Int → Bool} (h : ∀ E, T - (pr f : Nat) ≤ E → U E = U' E ∧ X E = X' E) : ze4 f m s T U X = ze4 f m s T U' X' := by
 unfold ze4
 rw [(h (max (T - (pr f : Nat)) (lo f)) (by omega)).1, (h (max (T - (pr f : Nat)) (lo f)) (by omega)).2, (h (T - (pr f : Nat)) (by omega)).1]
theorem zlJ (f m : Int) (s : Bool) {n : Nat} (hn : n ≠ 0) (e : Int) (j : Nat) : zam f m s (n * 2 ^ j) e = zam f m s n (e + j) := by
 have hu : zj f (n * 2 ^ j) e = zj f n (e + j) := by unfold zj; rw [zbJ hn]; congr 1; omega
 have hb : e + (bl (n * 2 ^ j) : Nat) - (pr f : Nat) = e + j + (bl n : Nat) - (pr f : Nat) := by rw [zbJ hn]; omega
 unfold zam
 simp only [hu, hb, zi1, zjX]
theorem zjt {f : Int} (h : isF f) {w : Nat} (h1 : cls f w ≠ 1) (h2 : cls f w < 4) : zB f w ≠ 0 := by
 rw [zdZ h] at h1 h2
 have hp := zk (fb f)
 unfold zB
 by_cases c : zJ f w = 0
 ·rw [if_pos c] at h1 h2 ⊢
  intro h3
  rw [if_pos h3] at h1
  exact h1 rfl
 ·rw [if_neg c]; omega
theorem zfp {f : Int} (h : isF f) (w : Nat) : 1 ≤ cls f w ∧ cls f w ≤ 5 := by
 rw [zdZ h]; split
 ·split <;> omega
 ·split
  ·omega
  ·split <;> omega
theorem zmo {s : Bool} {n : Nat} (h : n ≠ 0) : decide (sv s n < 0) = s ∧ (sv s n).natAbs = n ∧ sv s n ≠ 0 := ⟨zeo h, zaz s n, fun h2 => h (zbb.1 h2)⟩
end Go.Proofs.YtioialhbjmnndaaGreatDoor.Eng.K
