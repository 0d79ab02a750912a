import Derived.Test.YtioialhbjmnndaaGreatDoorQGaugeSafeF1
import Derived.Laws.BitsAllLaws
import Derived.KernelRfl
set_option linter.unusedVariables false
set_option linter.unusedSimpArgs false
namespace Go.Proofs.YtioialhbjmnndaaGreatDoor.Eng
def Ev {α : Type} (g : Nat → Option α) (r : α) : Prop := ∃ n, ∀ k, n ≤ k → g k = some r
theorem Ev.now {α : Type} (r : α) : Ev (fun _ => some r) r := ⟨0, fun _ _ => rfl⟩
theorem Ev.bind {α β : Type} {g : Nat → Option α} {f : Nat → α → Option β} {a : α} {r : β} (h : Ev g a) (k : Ev (fun n => f n a) r) : Ev (fun n => (g n).bind (f n)) r := by
 obtain ⟨n, hn⟩ := h
 obtain ⟨m, hm⟩ := k
 exact ⟨n + m, fun i hi => by show (g i).bind (f i) = some r; rw [hn i (by omega), Option.bind_some]; exact hm i (by omega)⟩
theorem Ev.step {α : Type} {g f : Nat → Option α} {r : α} (h : ∀ k, g (k + 1) = f k) (k : Ev f r) : Ev g r := by
 obtain ⟨n, hn⟩ := k
 refine ⟨n + 1, fun i hi => ?_⟩
 obtain ⟨i, rfl⟩ : ∃ j, i = j + 1 := ⟨i - 1, by omega⟩
 rw [h]; exact hn i (by omega)
end Go.Proofs.YtioialhbjmnndaaGreatDoor.Eng
namespace Go.Proofs.YtioialhbjmnndaaGreatDoor.Eng.K
open Go.RowKit
theorem w64 {n : Int} (h0 : -9223372036854775808 ≤ n) (h1 : n < 9223372036854775808) : wrap64 n = n := by unfold wrap64; omega
theorem zar {n : Int} (h0 : 0 ≤ n) (h1 : n < 9223372036854775808) : wrap64 n = n := by unfold wrap64; omega
theorem u64 {n : Int} (h0 : 0 ≤ n) (h1 : n < 18446744073709551616) : IntKind.u64.wrap n = n := by
 simp [IntKind.wrap, IntKind.bits, IntKind.signed]; omega
theorem zbT (n : Int) : IntKind.u64.wrap n = n % 18446744073709551616 := by
 simp [IntKind.wrap, IntKind.bits, IntKind.signed]
theorem rdn (xs : List Int) (n : Nat) : rd xs (n : Int) = xs.getD n 0 := by simp [rd]
theorem z6 {xs ys : List Int} {y : Int} {i : Int} (h : i = (xs.length : Int)) : rd (xs ++ y :: ys) i = y := by
 subst h; simp [rd]
theorem zbp {xs ys : List Int} {y z : Int} {i : Int} (h : i = (xs.length : Int)) : (xs ++ y :: ys).set i.toNat z = (xs ++ [z]) ++ ys := by
 subst h; simp
theorem zg {α : Type} {g : Nat → Option α} {r s : α} (h : Ev g r) (e : r = s) : Ev g s := e ▸ h
theorem zf4 {α : Type} {x : Option α} {r : α} (h : x = some r) : Ev (fun _ => x) r := by subst h; exact Ev.now r
theorem zd {α : Type} {c : Prop} {_ : Decidable c} {g f : Nat → Option α} {r : α} (h : c) (k : Ev g r) : Ev (fun n => if c then g n else f n) r := by
 simpa [h] using k
theorem ze {α : Type} {c : Prop} {_ : Decidable c} {g f : Nat → Option α} {r : α} (h : ¬ c) (k : Ev f r) : Ev (fun n => if c then g n else f n) r := by
 simpa [h] using k
theorem ep {α : Type} {c : Prop} {_ : Decidable c} {g f : Nat → Option α} {r : α} (k : Ev g r) (h : c := by (first | omega | assumption | (simp; done) | (simp; omega))) : Ev (fun n => if c then g n else f n) r := zd h k
theorem en {α : Type} {c : Prop} {_ : Decidable c} {g f : Nat → Option α} {r : α} (k : Ev f r) (h : ¬ c := by (first | omega | assumption | (simp; done) | (simp; omega))) : Ev (fun n => if c then g n else f n) r := ze h k
theorem zh {α β : Type} {x : Option α} {f : Nat → α → Option β} {a : α} {r : β} (h : x = some a) (k : Ev (fun n => f n a) r) : Ev (fun n => x.bind (f n)) r := by
 subst h; exact k
theorem zf {α : Type} {g : Nat → Option α} {r : α} (k : Ev (fun n => g (n + 1)) r) : Ev g r := Ev.step (fun _ => rfl) k
theorem Ev.unique {α : Type} {g : Nat → Option α} {r s : α} (h : Ev g r) (k : Ev g s) : r = s := by
 obtain ⟨a, ha⟩ := h; obtain ⟨b, hb⟩ := k
 have h1 := ha (max a b) (Nat.le_max_left _ _); have h2 := hb (max a b) (Nat.le_max_right _ _)
 rw [h1] at h2; exact Option.some.inj h2
def Dg (l : List Int) : Prop := ∀ x ∈ l, 0 ≤ x ∧ x < 4294967296
def V : List Int → Nat
 | [] => 0
 | d :: l => d.toNat + 4294967296 * V l
def D (n : Nat) : List Int := if h : n = 0 then [] else ((n % 4294967296 : Nat) : Int) :: D (n / 4294967296)
termination_by n
decreasing_by omega
theorem Dg.nil : Dg [] := fun _ h => by simp at h
theorem Dg.cons {d : Int} {l : List Int} (h0 : 0 ≤ d) (h1 : d < 4294967296) (h : Dg l) : Dg (d :: l) := fun x hx => by
 rcases List.mem_cons.1 hx with rfl | hx
 ·exact ⟨h0, h1⟩
 ·exact h x hx
theorem Dg.head {d : Int} {l : List Int} (h : Dg (d :: l)) : 0 ≤ d ∧ d < 4294967296 := h d (by simp)
theorem Dg.tail {d : Int} {l : List Int} (h : Dg (d :: l)) : Dg l := fun x hx => h x (by simp [hx])
theorem Dg.app {a b : List Int} (h : Dg a) (k : Dg b) : Dg (a ++ b) := fun x hx => by
 rcases List.mem_append.1 hx with hx | hx
 ·exact h x hx
 ·exact k x hx
theorem Dg.left {a b : List Int} (h : Dg (a ++ b)) : Dg a := fun x hx => h x (by simp [hx])
theorem Dg.right {a b : List Int} (h : Dg (a ++ b)) : Dg b := fun x hx => h x (by simp [hx])
theorem Dg.take {a : List Int} (h : Dg a) (n : Nat) : Dg (a.take n) := fun x hx => h x (List.mem_of_mem_take hx)
theorem Dg.drop {a : List Int} (h : Dg a) (n : Nat) : Dg (a.drop n) := fun x hx => h x (List.mem_of_mem_drop hx)
theorem Dg.zeros (n : Nat) : Dg (List.replicate n 0) := fun x hx => by
 obtain ⟨_, rfl⟩ := List.mem_replicate.1 hx; omega
theorem Dg.getD {a : List Int} (h : Dg a) (n : Nat) : 0 ≤ a.getD n 0 ∧ a.getD n 0 < 4294967296 := by
 rw [List.getD_eq_getElem?_getD]
 cases e : a[n]? with
 | none => simp
 | some x => simpa using h x (List.mem_of_getElem? e)
theorem Dg.rd {a : List Int} (h : Dg a) (i : Int) : 0 ≤ rd a i ∧ rd a i < 4294967296 := h.getD i.toNat
theorem Dg.set {a : List Int} (h : Dg a) (n : Nat) {x : Int} (h0 : 0 ≤ x) (h1 : x < 4294967296) : Dg (a.set n x) := fun y hy => by
 rcases List.mem_or_eq_of_mem_set hy with hy | rfl
 ·exact h y hy
 ·exact ⟨h0, h1⟩
theorem Dg.wf {a : List Int} (h : ∀ x ∈ a, (Lit.int .u32 x).wf = true) : Dg a := fun x hx => by
 have := h x hx
 simp [Lit.wf, IntKind.min, IntKind.max, IntKind.signed, IntKind.bits] at this
 omega
@[simp] theorem zE : V [] = 0 := rfl
@[simp] theorem zv (d : Int) (l : List Int) : V (d :: l) = d.toNat + 4294967296 * V l := rfl
theorem zas (a b : List Int) : V (a ++ b) = V a + 4294967296 ^ a.length * V b := by
 induction a with
 | nil => simp
 | cons d a ih => simp [ih, Nat.pow_succ]; grind
theorem zc2 (n : Nat) : V (List.replicate n 0) = 0 := by
 induction n with
 | zero => rfl
 | succ n ih => simp [List.replicate_succ, ih]
theorem zaJ {l : List Int} (h : Dg l) : V l < 4294967296 ^ l.length := by
 induction l with
 | nil => simp
 | cons d l ih =>
  have := ih h.tail; have := h.head
  simp only [zv, List.length_cons, Nat.pow_succ]
  omega
theorem zC : D 0 = [] := by unfold D; simp
theorem zbc {n : Nat} (h : n ≠ 0) : D n = ((n % 4294967296 : Nat) : Int) :: D (n / 4294967296) := by
 conv => lhs; unfold D
 simp [h]
theorem V_D (n : Nat) : V (D n) = n := by
 induction n using Nat.strongRecOn with
 | _ n ih =>
  by_cases h : n = 0
  ·subst h; simp [zC]
  ·rw [zbc h, zv, ih _ (by omega)]; omega
theorem zck (n : Nat) : Dg (D n) := by
 induction n using Nat.strongRecOn with
 | _ n ih =>
  by_cases h : n = 0
  ·subst h; rw [zC]; exact Dg.nil
  ·rw [zbc h]; exact Dg.cons (by omega) (by omega) (ih _ (by omega))
theorem zcW {d : Int} {n : Nat} (h0 : 0 ≤ d) (h1 : d < 4294967296) (h : d ≠ 0 ∨ n ≠ 0) : D (d.toNat + 4294967296 * n) = d :: D n := by
 rw [zbc (by omega)]
 congr 1
 ·omega
 ·congr 1; omega
def Nm (l : List Int) : Prop := D (V l) = l
instance (l : List Int) : Decidable (Nm l) := inferInstanceAs (Decidable (D (V l) = l))
theorem Nm.dg {l : List Int} (h : Nm l) : Dg l := h ▸ zck _
theorem zu (n : Nat) : Nm (D n) := by unfold Nm; rw [V_D]
theorem zaV : Nm [] := by unfold Nm; exact zC
theorem Nm.inj {a b : List Int} (h : Nm a) (k : Nm b) (e : V a = V b) : a = b := by rw [← h, e, k]
theorem zb0 {l : List Int} (h : Nm l) : V l = 0 ↔ l = [] := by
 constructor
 ·intro e; rw [← h, e, zC]
 ·rintro rfl; rfl
theorem zcZ {l : List Int} {d : Int} (h : Dg l) (h0 : 0 < d) (h1 : d < 4294967296) : Nm (l ++ [d]) := by
 unfold Nm
 induction l with
 | nil =>
  have := zcW (d := d) (n := 0) (by omega) h1 (by omega)
  simpa [zC] using this
 | cons x l ih =>
  have hx := h.head
  rw [List.cons_append, zv, zcW hx.1 hx.2, ih h.tail]
  right; rw [zas]
  have : 0 < 4294967296 ^ l.length := Nat.pow_pos (by omega)
  have : 0 < 4294967296 ^ l.length * V [d] := Nat.mul_pos this (by simp; omega)
  omega
theorem zc0 (l : List Int) : V (l ++ [0]) = V l := by rw [zas]; simp
theorem zfn {l : List Int} (h : Dg l) : (D (V l)).length ≤ l.length := by
 induction l with
 | nil => simp [zC]
 | cons x l ih =>
  have hx := h.head
  by_cases e : x ≠ 0 ∨ V l ≠ 0
  ·rw [zv, zcW hx.1 hx.2 e]; simpa using ih h.tail
  ·have h1 : x = 0 := by omega
   have h2 : V l = 0 := by omega
   simp [h1, h2, zC]
theorem zdC {l : List Int} {d : Int} (h : Nm (l ++ [d])) : d ≠ 0 := by
 intro e; subst e
 have h2 := zfn h.dg.left
 have h3 : D (V (l ++ [0])) = l ++ [0] := h
 rw [zc0] at h3
 rw [h3] at h2
 simp at h2
 omega
theorem zdB {l : List Int} (h : Dg l) : Nm l ↔ l = [] ∨ l.getD (l.length - 1) 0 ≠ 0 := by
 rcases List.eq_nil_or_concat l with rfl | ⟨a, d, rfl⟩
 ·simp [zaV]
 ·rw [List.concat_eq_append] at h ⊢
  have : (a ++ [d]).getD ((a ++ [d]).length - 1) 0 = d := by simp
  rw [this]
  constructor
  ·intro k; exact .inr (zdC k)
  ·rintro (k | k)
   ·simp at k
   ·have := h d (by simp)
    exact zcZ h.left (by omega) this.2
theorem zdA {n k : Nat} (h : n < 4294967296 ^ k) : (D n).length ≤ k := by
  induction k generalizing n with
  | zero => have : n = 0 := by simpa using h
            subst this; simp [zC]
  | succ k ih =>
    by_cases e : n = 0
    · subst e; simp [zC]
    · rw [zbc e, List.length_cons]
      have := ih (n := n / 4294967296) (by rw [Nat.pow_succ] at h; omega)
      omega
theorem zbM (n : Nat) : n < 4294967296 ^ (D n).length := by
 have := zaJ (zck n); rwa [V_D] at this
theorem zfm {n : Nat} (h : n ≠ 0) : 4294967296 ^ ((D n).length - 1) ≤ n := by
 apply Nat.le_of_not_lt
 intro k
 have := zdA k
 have : (D n).length ≠ 0 := by rw [zbc h]; simp
 omega
theorem zbY {a b : Nat} (h : a ≤ b) : (D a).length ≤ (D b).length :=
 zdA (Nat.lt_of_le_of_lt h (zbM b))
theorem zgo {a b : Nat} (h : (D a).length < (D b).length) : a < b := by
 apply Nat.lt_of_not_le
 intro k
 have := zbY k
 omega
theorem Nm.len {l : List Int} (h : Nm l) : (D (V l)).length = l.length := by rw [h]
theorem Nm.lt_of_len {a b : List Int} (h : Nm a) (k : Nm b) (e : a.length < b.length) : V a < V b := by
 apply zgo; rw [h, k]; exact e
theorem zB {n : Nat} (h : n < 4611686018427387904) : wrap64 ((n : Int) + 1) = ((n + 1 : Nat) : Int) := by unfold wrap64; omega
theorem zfd {n : Nat} (h : n < 4611686018427387904) : wrap64 (((n + 1 : Nat) : Int) - 1) = (n : Int) := by unfold wrap64; omega
theorem ze8 : ∀ (n : Nat) (l : List Int), l.length = n → Dg l → n < 4611686018427387904 → Ev (fun k => zk.f k l) (D (V l))
 | 0, l, hn, hd, hb => by
  have : l = [] := List.eq_nil_of_length_eq_zero hn
  subst this
  refine zf (zf4 ?_)
  simp [zk.f, zk.l0, zC]
 | n + 1, l, hn, hd, hb => by
  rcases List.eq_nil_or_concat l with rfl | ⟨a, d, rfl⟩
  ·simp at hn
  rw [List.concat_eq_append] at hn hd ⊢
  have hl : (a ++ [d]).length = n + 1 := hn
  have ha : a.length = n := by simpa using hn
  refine zf ?_
  show Ev (fun k => zk.l0 (k + 1) (a ++ [d])) _
  simp only [zk.l0, hl, zfd (n := n) (by omega)]
  refine zd (by omega) (zd (by omega) (zd (by omega) ?_))
  rw [z6 (by omega)]
  by_cases h0 : d = 0
  ·subst h0
   refine zd rfl (zd (by omega) ?_)
   rw [zc0]
   have : (a ++ [(0 : Int)]).take (n : Int).toNat = a := by simp [← ha]
   rw [this]
   exact zd (by omega) (ze8 n a ha hd.left (by omega))
  ·refine ze h0 ?_
   have := hd d (by simp)
   rw [zcZ hd.left (by omega) this.2]
   exact Ev.now _
theorem zcg {l : List Int} (hd : Dg l) (hb : l.length < 4611686018427387904) : Ev (fun k => zk.f k l) (D (V l)) := ze8 _ l rfl hd hb
theorem zeU (l : List Int) (hd : Dg l) (hb : l.length < 4611686018427387904) : ∀ (n : Nat) (a b : List Int), a.length = n → l = a ++ b → V b = 0 → Ev (fun k => zm.l0 k l n) (D (V l))
 | 0, a, b, hn, he, h0 => by
  have : a = [] := List.eq_nil_of_length_eq_zero hn
  subst this
  refine zf ?_
  simp only [zm.l0]
  refine ze (by omega) (zd (by omega) (zd (by omega) ?_))
  rw [he]; simp [h0, zC]; exact Ev.now _
 | n + 1, a, b, hn, he, h0 => by
  rcases List.eq_nil_or_concat a with rfl | ⟨a, d, rfl⟩
  ·simp at hn
  rw [List.concat_eq_append] at hn he
  have ha : a.length = n := by simpa using hn
  have hl : l.length = n + 1 + b.length := by rw [he]; simp [ha]; omega
  refine zf ?_
  simp only [zm.l0, zfd (n := n) (by omega)]
  refine zd (by omega) (zd (by omega) (zd (by omega) ?_))
  have hr : rd l n = d := by rw [he, List.append_assoc]; exact z6 (by omega)
  rw [hr]
  by_cases hz : d = 0
  ·refine zd hz ?_
   exact zeU l hd hb n a (d :: b) ha (by rw [he]; simp) (by simp [h0, hz])
  ·refine ze hz (zd (by omega) (zd (by omega) ?_))
   have hd2 := hd
   rw [he] at hd2
   have h1 := hd2.left d (by simp)
   have h2 : V l = V (a ++ [d]) := by rw [he, zas (a ++ [d]) b, h0]; simp
   have h3 : l.take ((n + 1 : Nat) : Int).toNat = a ++ [d] := by
    rw [he, Int.toNat_natCast]; exact List.take_left' (by simp [ha])
   rw [h3, h2, zcZ hd2.left.left (by omega) h1.2]
   exact Ev.now _
theorem zci {l : List Int} (hd : Dg l) (hb : l.length < 4611686018427387904) : Ev (fun k => zm.f k l) (D (V l)) :=
 zeU l hd hb l.length l [] rfl (by simp) rfl
def may (l : List Int) : Bool := decide (l.length ≤ 4096) && decide (Nm l)
theorem zae {l : List Int} : may l = true ↔ l.length ≤ 4096 ∧ Nm l := by simp [may]
theorem zaQ {l : List Int} (h : Dg l) (hb : l.length < 4611686018427387904) : zR.f l = some (may l) := by
 unfold zR.f may
 by_cases h1 : l.length ≤ 4096
 ·rw [if_pos (by omega)]
  by_cases h2 : l.length = 0
  ·have : l = [] := List.eq_nil_of_length_eq_zero h2
   subst this; simp [zaV]
  ·rw [if_neg (by omega)]
   have e : wrap64 ((l.length : Int) - 1) = ((l.length - 1 : Nat) : Int) := by unfold wrap64; omega
   rw [e, if_pos (by omega), if_pos (by omega), rdn]
   have h3 : l ≠ [] := fun e => h2 (by rw [e]; rfl)
   have h4 := zdB h
   by_cases h5 : l.getD (l.length - 1) 0 = 0
   ·have : ¬ Nm l := fun k => by rcases h4.1 k with k | k <;> contradiction
    rw [h5]; simp [this]
   ·have : Nm l := h4.2 (.inr h5)
    simp only [h5, not_false_eq_true, decide_true]; simp [h1, this]
 ·rw [if_neg (by omega)]; simp [h1]
theorem zcq {a b : List Int} (ha : Dg a) (hb : Dg b) (la : a.length < 4611686018427387904) (lb : b.length < 4611686018427387904) : Ev (fun k => zI.f k [a, b]) (may a && may b) := by
 unfold zI.f
 refine zf ?_
 simp only [zI.l0]
 refine zd (by simp) (zd (by omega) (zd (by simp) ?_))
 have e0 : rdT [.is .u32] [a, b] 0 = a := rfl
 have e1 : rdT [.is .u32] [a, b] 1 = b := rfl
 rw [e0]
 refine zh (zaQ ha la) ?_
 cases may a with
 | false => exact zd (by simp) (Ev.now _)
 | true =>
  refine ze (by simp) ?_
  have w1 : wrap64 (0 + 1) = 1 := by unfold wrap64; omega
  have w2 : wrap64 (1 + 1) = 2 := by unfold wrap64; omega
  rw [w1]
  refine zf ?_
  simp only [zI.l0]
  refine zd (by simp) (zd (by omega) (zd (by simp) ?_))
  rw [e1]
  refine zh (zaQ hb lb) ?_
  cases may b with
  | false => exact zd (by simp) (Ev.now _)
  | true =>
   refine ze (by simp) ?_
   rw [w2]
   refine zf ?_
   simp only [zI.l0]
   exact ze (by simp) (Ev.now _)
def zao (n : Nat) : List Int × Int := if (D n).length > 4096 then ([], 3) else (D n, 0)
theorem zeu (n : Nat) : z4.f (D n) = some (zao n) := by
 unfold z4.f zao
 by_cases h : (D n).length > 4096
 ·rw [if_pos (by omega), if_pos h]
 ·rw [if_neg (by omega), if_neg h]
theorem zfs {x y c : Int} (hx : 0 ≤ x ∧ x < 4294967296) (hy : 0 ≤ y ∧ y < 4294967296) (hc : 0 ≤ c ∧ c < 4294967296) : zbd.f x y c = some ((x + y + c) % 4294967296, (x + y + c) / 4294967296) := by
 unfold zbd.f
 rw [u64 hx.1 (by omega), u64 hy.1 (by omega), u64 hc.1 (by omega), u64 (n := x + y) (by omega) (by omega), u64 (by omega) (by omega)]
 have : (x + y + c) / 4294967296 % 4294967296 = (x + y + c) / 4294967296 := by omega
 rw [this]
def zaK : List Int → List Int → Int → List Int
 | [], _, c => [c]
 | x :: a, b, c => ((x + b.headD 0 + c) % 4294967296) :: zaK a b.tail ((x + b.headD 0 + c) / 4294967296)
theorem Dg.headD {b : List Int} (h : Dg b) : 0 ≤ b.headD 0 ∧ b.headD 0 < 4294967296 := by
 cases b with
 | nil => simp
 | cons y b => exact h.head
theorem Dg.tl {b : List Int} (h : Dg b) : Dg b.tail := by
 cases b with
 | nil => exact h
 | cons y b => exact h.tail
theorem zbt (b : List Int) : V b = (b.headD 0).toNat + 4294967296 * V b.tail := by
 cases b <;> simp
theorem zft {a b : List Int} {c : Int} (ha : Dg a) (hb : Dg b) (hc : 0 ≤ c ∧ c ≤ 1) (hl : b.length ≤ a.length) : V (zaK a b c) = V a + V b + c.toNat ∧ Dg (zaK a b c) := by
 induction a generalizing b c with
 | nil =>
  have : b = [] := List.eq_nil_of_length_eq_zero (by simpa using hl)
  subst this
  exact ⟨by simp [zaK], Dg.cons hc.1 (by omega) Dg.nil⟩
 | cons x a ih =>
  have hx := ha.head
  have hy := hb.headD
  have := ih (b := b.tail) (c := (x + b.headD 0 + c) / 4294967296) ha.tail hb.tl (by omega) (by simp at hl ⊢; omega)
  refine ⟨?_, Dg.cons (by omega) (by omega) this.2⟩
  rw [zaK, zv, this.1, zbt b, zv]
  omega
theorem zb7 (b : List Int) (n : Nat) : (b.drop n).headD 0 = b.getD n 0 := by
 rw [List.headD_eq_head?_getD, List.head?_drop, List.getD_eq_getElem?_getD]
theorem zdN (A Bl : List Int) (hA : Dg A) (hB : Dg Bl) (hl : A.length < 1152921504606846976) : ∀ (a done r : List Int) (c : Int) (pa : List Int), A = pa ++ a → done.length = pa.length → r.length = a.length + 1 → 0 ≤ c ∧ c ≤ 1 → Dg done → (Bl.drop done.length).length ≤ a.length →
  Ev (fun k => zl.l0 k A Bl (done ++ r) c A.length done.length) (zao (V (done ++ zaK a (Bl.drop done.length) c)))
 | [], done, r, c, pa, he, hd, hr, hc, hg, hbl => by
  obtain ⟨y, rfl⟩ : ∃ y, r = [y] := by
   match r, hr with
   | [y], _ => exact ⟨y, rfl⟩
  have hlen : A.length = done.length := by rw [he, hd]; simp
  refine zf ?_
  simp only [zl.l0]
  refine ze (by omega) (zd (by omega) (zd (by simp; omega) ?_))
  have hs : (done ++ [y]).set (A.length : Int).toNat c = done ++ [c] := by
   rw [zbp (by omega)]; simp
  rw [hs]
  have hg2 : Dg (done ++ [c]) := hg.app (Dg.cons hc.1 (by omega) Dg.nil)
  refine Ev.bind (zcg hg2 (by simp; omega)) ?_
  refine zh (zeu _) ?_
  exact Ev.now _
 | x :: a, done, r, c, pa, he, hd, hr, hc, hg, hbl => by
  obtain ⟨y, r, rfl⟩ : ∃ y r', r = y :: r' := by
   match r, hr with
   | y :: r', _ => exact ⟨y, r', rfl⟩
  have hlen : A.length = done.length + 1 + a.length := by rw [he, hd]; simp; omega
  refine zf ?_
  simp only [zl.l0, zB (n := done.length) (by omega)]
  refine zd (by omega) ?_
  have hx : rd A (done.length : Int) = x := by rw [he]; exact z6 (by omega)
  have hxr : 0 ≤ x ∧ x < 4294967296 := by rw [he] at hA; exact hA.right.head
  have hyr := (hB.drop done.length).headD
  have key : ∀ z, z = (Bl.drop done.length).headD 0 → Ev (fun k => (zbd.f x z c).bind fun bt => if (done.length : Int) < ((done ++ y :: r).length : Int) then zl.l0 k A Bl ((done ++ y :: r).set (done.length : Int).toNat bt.1) bt.2 A.length ((done.length + 1 : Nat) : Int) else none) (zao (V (done ++ zaK (x :: a) (Bl.drop done.length) c))) := by
   rintro z rfl
   refine zh (zfs hxr hyr ⟨hc.1, by omega⟩) ?_
   refine zd (by simp; omega) ?_
   rw [zbp rfl]
   have := zdN A Bl hA hB hl a (done ++ [(x + (Bl.drop done.length).headD 0 + c) % 4294967296]) r ((x + (Bl.drop done.length).headD 0 + c) / 4294967296) (pa ++ [x]) (by rw [he]; simp) (by simp [hd]) (by simpa using hr) (by omega) (hg.app (Dg.cons (by omega) (by omega) Dg.nil)) (by simp at hbl ⊢; omega)
   rw [List.length_append, List.length_singleton] at this
   refine zg this ?_
   rw [zaK, List.tail_drop]; simp
  have jn : ∀ z, z = (Bl.drop done.length).headD 0 → Ev (fun n => zl.j3 n A Bl (done ++ y :: r) c (done.length : Int) z A.length (done.length : Int)) (zao (V (done ++ zaK (x :: a) (Bl.drop done.length) c))) := by
   intro z hz
   refine zf ?_
   simp only [zl.j3, zB (n := done.length) (by omega)]
   refine zd (by omega) (zd (by omega) ?_)
   rw [hx]
   have := key z hz
   simpa only [show (0 : Int) ≤ (done.length : Int) by omega, if_true] using this
  by_cases hb : (done.length : Int) < (Bl.length : Int)
  ·refine zd hb (zd (by omega) (zd (by omega) ?_))
   exact jn _ (by rw [zb7, rdn])
  ·refine ze hb ?_
   exact jn 0 (by rw [List.drop_eq_nil_of_le (by omega)]; rfl)
theorem zdM {a b : List Int} (ha : Dg a) (hb : Dg b) (hl : b.length ≤ a.length) (hn : a.length ≤ 4096) : Ev (fun k => zl.j1 k a b) (zao (V a + V b)) := by
 refine zf ?_
 simp only [zl.j1, zB (n := a.length) (by omega)]
 refine zd (by omega) (zd (by omega) ?_)
 have := zdN a b ha hb (by omega) a [] (List.replicate (a.length + 1) 0) 0 [] rfl rfl (by simp) (by omega) Dg.nil (by simpa using hl)
 refine zg this ?_
 have h2 := zft ha hb (c := 0) (by omega) hl
 simp [h2.1]
theorem zgA {a b : List Int} (ha : Nm a) (hb : Nm b) (la : a.length ≤ 4096) (lb : b.length ≤ 4096) : Ev (fun k => zl.f k a b) (zao (V a + V b)) := by
 unfold zl.f
 refine Ev.bind (zcq ha.dg hb.dg (by omega) (by omega)) ?_
 have h1 : may a = true := zae.2 ⟨la, ha⟩
 have h2 : may b = true := zae.2 ⟨lb, hb⟩
 refine ze (by simp [h1, h2]) ?_
 by_cases h : a.length < b.length
 ·refine zd (by omega) ?_
  rw [Nat.add_comm]; exact zdM hb.dg ha.dg (by omega) lb
 ·exact ze (by omega) (zdM ha.dg hb.dg (by omega) la)
def zA (m n : Nat) : Int := if m < n then -1 else if n < m then 1 else 0
theorem zc1 {l : List Int} {n : Nat} (h : n < l.length) : V (l.take (n + 1)) = V (l.take n) + 4294967296 ^ n * (l.getD n 0).toNat := by
 rw [List.take_succ_eq_append_getElem h, zas]
 simp [Nat.min_eq_left (Nat.le_of_lt h), h]
theorem ze7 {p q P d e : Nat} (hp : p < P) (h : d < e) : p + P * d < q + P * e := by
 have : P * (d + 1) ≤ P * e := Nat.mul_le_mul_left _ h
 rw [Nat.mul_add] at this
 omega
theorem zdH {l : List Int} (h : Dg l) {n : Nat} (hn : n ≤ l.length) : V (l.take n) < 4294967296 ^ n := by
 have := zaJ (h.take n); rwa [List.length_take, Nat.min_eq_left hn] at this
theorem zd9 {x y : List Int} (hx : Dg x) (hy : Dg y) {n : Nat} (h1 : n < x.length) (h2 : n < y.length) :
  zA (V (x.take (n + 1))) (V (y.take (n + 1))) = if x.getD n 0 = y.getD n 0 then zA (V (x.take n)) (V (y.take n)) else if x.getD n 0 < y.getD n 0 then -1 else 1 := by
 rw [zc1 h1, zc1 h2]
 have a := hx.getD n
 have b := hy.getD n
 have p := zdH hx (Nat.le_of_lt h1)
 have q := zdH hy (Nat.le_of_lt h2)
 by_cases e : x.getD n 0 = y.getD n 0
 ·rw [if_pos e, e]; unfold zA; simp
 ·rw [if_neg e]
  by_cases c : x.getD n 0 < y.getD n 0
  ·rw [if_pos c]
   have := ze7 (q := V (y.take n)) p (show (x.getD n 0).toNat < (y.getD n 0).toNat by omega)
   unfold zA; rw [if_pos this]
  ·rw [if_neg c]
   have := ze7 (q := V (x.take n)) q (show (y.getD n 0).toNat < (x.getD n 0).toNat by omega)
   unfold zA; rw [if_neg (by omega), if_pos this]
theorem zcS {n : Nat} (h : n < 4611686018427387904) : wrap64 ((n : Int) - 1) = (n : Int) - 1 := by unfold wrap64; omega
theorem zd7 {x y : List Int} (hx : Dg x) (hy : Dg y) (hb : x.length < 4611686018427387904) : ∀ (n : Nat), n ≤ x.length → n ≤ y.length → Ev (fun k => z5.l0 k x y ((n : Int) - 1)) (zA (V (x.take n)) (V (y.take n)))
 | 0, _, _ => by
  refine zf ?_
  simp only [z5.l0]
  (repeat (first | with_reducible refine ep ?_ | with_reducible refine en ?_)); exact Ev.now _
 | n + 1, h1, h2 => by
  refine zf ?_
  simp only [z5.l0]
  have e : ((n + 1 : Nat) : Int) - 1 = (n : Int) := by omega
  rw [e, zcS (n := n) (by omega)]
  (repeat (first | with_reducible refine ep ?_ | with_reducible refine en ?_))
  rw [zd9 hx hy (by omega) (by omega), rdn, rdn]
  by_cases c : x.getD n 0 = y.getD n 0
  ·(repeat (first | with_reducible refine ep ?_ | with_reducible refine en ?_))
   rw [if_pos c]
   exact zd7 hx hy hb n (by omega) (by omega)
  ·(repeat (first | with_reducible refine ep ?_ | with_reducible refine en ?_))
   rw [if_neg c]
   by_cases c2 : x.getD n 0 < y.getD n 0
   ·(repeat (first | with_reducible refine ep ?_ | with_reducible refine en ?_))
    rw [if_pos c2]; exact Ev.now _
   ·(repeat (first | with_reducible refine ep ?_ | with_reducible refine en ?_))
    rw [if_neg c2]; exact Ev.now _
theorem zev {x y : List Int} (hx : Nm x) (hy : Nm y) (hb : x.length < 4611686018427387904) : Ev (fun k => z5.f k x y) (zA (V x) (V y)) := by
 unfold z5.f
 by_cases c : x.length < y.length
 ·(repeat (first | with_reducible refine ep ?_ | with_reducible refine en ?_))
  unfold zA; rw [if_pos (hx.lt_of_len hy c)]; exact Ev.now _
 ·(repeat (first | with_reducible refine ep ?_ | with_reducible refine en ?_))
  by_cases c2 : y.length < x.length
  ·(repeat (first | with_reducible refine ep ?_ | with_reducible refine en ?_))
   have := hy.lt_of_len hx c2
   unfold zA; rw [if_neg (by omega), if_pos this]; exact Ev.now _
  ·(repeat (first | with_reducible refine ep ?_ | with_reducible refine en ?_))
   have e : x.length = y.length := by omega
   rw [zcS (by omega)]
   have := zd7 hx.dg hy.dg hb x.length (by omega) (by omega)
   rwa [List.take_length, e, List.take_length, ← e] at this
theorem zeI {x y : List Int} (hx : Dg x) (hy : Dg y) (hb : x.length < 4611686018427387904) : ∀ (n : Nat), n ≤ x.length → n ≤ y.length → Ev (fun k => zai.l0 k x y ((n : Int) - 1)) (zA (V (x.take n)) (V (y.take n)))
 | 0, _, _ => by
  refine zf ?_
  simp only [zai.l0]
  (repeat (first | with_reducible refine ep ?_ | with_reducible refine en ?_)); exact Ev.now _
 | n + 1, h1, h2 => by
  refine zf ?_
  simp only [zai.l0]
  have e : ((n + 1 : Nat) : Int) - 1 = (n : Int) := by omega
  rw [e, zcS (n := n) (by omega)]
  (repeat (first | with_reducible refine ep ?_ | with_reducible refine en ?_))
  rw [zd9 hx hy (by omega) (by omega), rdn, rdn]
  by_cases c2 : x.getD n 0 < y.getD n 0
  ·(repeat (first | with_reducible refine ep ?_ | with_reducible refine en ?_))
   rw [if_neg (by omega), if_pos c2]; exact Ev.now _
  ·(repeat (first | with_reducible refine ep ?_ | with_reducible refine en ?_))
   by_cases c : x.getD n 0 > y.getD n 0
   ·(repeat (first | with_reducible refine ep ?_ | with_reducible refine en ?_))
    rw [if_neg (by omega), if_neg c2]; exact Ev.now _
   ·(repeat (first | with_reducible refine ep ?_ | with_reducible refine en ?_))
    rw [if_pos (by omega)]
    exact zeI hx hy hb n (by omega) (by omega)
theorem zg4 {x y : List Int} (hx : Nm x) (hy : Nm y) (hb : x.length < 4611686018427387904) : Ev (fun k => zai.f k x y) (zA (V x) (V y)) := by
 unfold zai.f
 by_cases e : x.length = y.length
 ·(repeat (first | with_reducible refine ep ?_ | with_reducible refine en ?_))
  rw [zcS (by omega)]
  have := zeI hx.dg hy.dg hb x.length (by omega) (by omega)
  rwa [List.take_length, e, List.take_length, ← e] at this
 ·(repeat (first | with_reducible refine ep ?_ | with_reducible refine en ?_))
  by_cases c : x.length < y.length
  ·(repeat (first | with_reducible refine ep ?_ | with_reducible refine en ?_))
   unfold zA; rw [if_pos (hx.lt_of_len hy c)]; exact Ev.now _
  ·(repeat (first | with_reducible refine ep ?_ | with_reducible refine en ?_))
   have := hy.lt_of_len hx (by omega)
   unfold zA; rw [if_neg (by omega), if_pos this]; exact Ev.now _
theorem zcL {a b : List Int} (ha : Nm a) (hb : Nm b) (la : a.length ≤ 4096) (lb : b.length ≤ 4096) : Ev (fun k => za5.f k a b) (zA (V a) (V b), 0) := by
 unfold za5.f
 refine Ev.bind (zcq ha.dg hb.dg (by omega) (by omega)) ?_
 have h1 : may a = true := zae.2 ⟨la, ha⟩
 have h2 : may b = true := zae.2 ⟨lb, hb⟩
 refine ze (by simp [h1, h2]) (Ev.bind (zev ha hb (by omega)) ?_)
 exact Ev.now _
theorem zca (n : Nat) : n >>> 31 = n / 2147483648 := by rw [Nat.shiftRight_eq_div_pow]
theorem zc4 {n : Nat} (h : n < 4294967296) : n / 2147483648 = 0 ∨ n / 2147483648 = 1 := by omega
theorem zfI {x y d : Nat} (hx : x < 4294967296) (hy : y < 4294967296) (hd : d < 4294967296) :
  ((((4294967295 ^^^ x) &&& y) ||| ((4294967295 ^^^ (x ^^^ y)) &&& d)) / 2147483648 : Nat) =
   if x / 2147483648 = 0 then (if y / 2147483648 = 0 then d / 2147483648 else 1) else (if y / 2147483648 = 0 then 0 else d / 2147483648) := by
 rw [← zca, ← zca, ← zca, ← zca, Nat.shiftRight_or_distrib, Nat.shiftRight_and_distrib, Nat.shiftRight_and_distrib, Nat.shiftRight_xor_distrib, Nat.shiftRight_xor_distrib, Nat.shiftRight_xor_distrib]
 simp only [zca]
 have e : 4294967295 / 2147483648 = 1 := by decide
 rw [e]
 rcases zc4 hx with h1 | h1 <;> rcases zc4 hy with h2 | h2 <;> rcases zc4 hd with h3 | h3 <;> rw [h1, h2, h3] <;> decide
theorem zht {x y c : Int} (hx : 0 ≤ x ∧ x < 4294967296) (hy : 0 ≤ y ∧ y < 4294967296) (hc : 0 ≤ c ∧ c ≤ 1) : zbe.f x y c = some ((x - y - c) % 4294967296, if x < y + c then 1 else 0) := by
 unfold zbe.f
 have hd : ((x - y) % 4294967296 - c) % 4294967296 = (x - y - c) % 4294967296 := by omega
 rw [hd]
 obtain ⟨X, rfl⟩ := Int.eq_ofNat_of_zero_le hx.1
 obtain ⟨Y, rfl⟩ := Int.eq_ofNat_of_zero_le hy.1
 obtain ⟨Z, hZ⟩ := Int.eq_ofNat_of_zero_le (show 0 ≤ ((X : Int) - Y - c) % 4294967296 by omega)
 have hZl : Z < 4294967296 := by omega
 have h1 : 4294967295 ^^^ X < 4294967296 := Nat.xor_lt_two_pow (n := 32) (by omega) (by omega)
 have h2 : X ^^^ Y < 4294967296 := Nat.xor_lt_two_pow (n := 32) (by omega) (by omega)
 have h3 : 4294967295 ^^^ (X ^^^ Y) < 4294967296 := Nat.xor_lt_two_pow (n := 32) (by omega) (by omega)
 have h4 : (4294967295 ^^^ X) &&& Y < 4294967296 := Nat.and_lt_two_pow (n := 32) _ (by omega)
 have h5 : (4294967295 ^^^ (X ^^^ Y)) &&& Z < 4294967296 := Nat.and_lt_two_pow (n := 32) _ (by omega)
 have e : (4294967295 : Int) = ((4294967295 : Nat) : Int) := rfl
 rw [hZ, e, u32_xor_nat _ _ (by omega) (by omega), u32_and_nat _ _ h1 (by omega), u32_xor_nat _ _ (by omega) (by omega), u32_xor_nat _ _ (by omega) h2, u32_and_nat _ _ h3 hZl, u32_or_nat _ _ h4 h5]
 have b := zfI (x := X) (y := Y) (d := Z) (by omega) (by omega) hZl
 have : (((((4294967295 ^^^ X) &&& Y ||| (4294967295 ^^^ (X ^^^ Y)) &&& Z : Nat) : Int)) / 2147483648) = (((((4294967295 ^^^ X) &&& Y ||| (4294967295 ^^^ (X ^^^ Y)) &&& Z) / 2147483648 : Nat)) : Int) := by omega
 rw [this, b]
 congr 2
 by_cases c1 : X / 2147483648 = 0 <;> by_cases c2 : Y / 2147483648 = 0 <;> simp only [c1, c2, if_true, if_false] <;> by_cases c3 : (X : Int) < Y + c <;> simp only [c3, if_true, if_false] <;> omega
def zan : List Int → List Int → Int → List Int
 | [], _, _ => []
 | x :: a, b, c => ((x - b.headD 0 - c) % 4294967296) :: zan a b.tail (if x < b.headD 0 + c then 1 else 0)
theorem zeZ {a b : List Int} {c : Int} (ha : Dg a) (hb : Dg b) (hc : 0 ≤ c ∧ c ≤ 1) (hl : b.length ≤ a.length) (h : V b + c.toNat ≤ V a) : V (zan a b c) = V a - V b - c.toNat ∧ Dg (zan a b c) := by
 induction a generalizing b c with
 | nil =>
  have : b = [] := List.eq_nil_of_length_eq_zero (by simpa using hl)
  subst this
  exact ⟨by simp [zan], Dg.nil⟩
 | cons x a ih =>
  have hx := ha.head
  have hy := hb.headD
  rw [zbt b, zv] at h
  have := ih (b := b.tail) (c := if x < b.headD 0 + c then 1 else 0) ha.tail hb.tl (by split <;> omega) (by simp at hl ⊢; omega) (by split <;> omega)
  refine ⟨?_, Dg.cons (by omega) (by omega) this.2⟩
  rw [zan, zv, this.1, zbt b, zv]
  split <;> omega
theorem ze0 (A Bl : List Int) (hA : Dg A) (hB : Dg Bl) (hl : A.length < 1152921504606846976) : ∀ (a done r : List Int) (c : Int) (pa : List Int), A = pa ++ a → done.length = pa.length → r.length = a.length → 0 ≤ c ∧ c ≤ 1 → Dg done →
  Ev (fun k => zG.l0 k A Bl (done ++ r) c A.length done.length) (D (V (done ++ zan a (Bl.drop done.length) c)))
 | [], done, r, c, pa, he, hd, hr, hc, hg => by
  have : r = [] := List.eq_nil_of_length_eq_zero hr
  subst this
  have hlen : A.length = done.length := by rw [he, hd]; simp
  refine zf ?_
  simp only [zG.l0]
  (repeat (first | with_reducible refine ep ?_ | with_reducible refine en ?_))
  refine Ev.bind (zcg (hg.app Dg.nil) (by simp; omega)) ?_
  exact Ev.now _
 | x :: a, done, r, c, pa, he, hd, hr, hc, hg => by
  obtain ⟨y, r, rfl⟩ : ∃ y r', r = y :: r' := by
   match r, hr with
   | y :: r', _ => exact ⟨y, r', rfl⟩
  have hlen : A.length = done.length + 1 + a.length := by rw [he, hd]; simp; omega
  refine zf ?_
  simp only [zG.l0, zB (n := done.length) (by omega)]
  (repeat (first | with_reducible refine ep ?_ | with_reducible refine en ?_))
  have hx : rd A (done.length : Int) = x := by rw [he]; exact z6 (by omega)
  have hxr : 0 ≤ x ∧ x < 4294967296 := by rw [he] at hA; exact hA.right.head
  have hyr := (hB.drop done.length).headD
  have key : ∀ z, z = (Bl.drop done.length).headD 0 → Ev (fun k => (zbe.f x z c).bind fun bt => if (done.length : Int) < ((done ++ y :: r).length : Int) then zG.l0 k A Bl ((done ++ y :: r).set (done.length : Int).toNat bt.1) bt.2 A.length ((done.length + 1 : Nat) : Int) else none) (D (V (done ++ zan (x :: a) (Bl.drop done.length) c))) := by
   rintro z rfl
   refine zh (zht hxr hyr hc) ?_
   (repeat (first | with_reducible refine ep ?_ | with_reducible refine en ?_))
   rw [zbp rfl]
   have := ze0 A Bl hA hB hl a (done ++ [(x - (Bl.drop done.length).headD 0 - c) % 4294967296]) r (if x < (Bl.drop done.length).headD 0 + c then 1 else 0) (pa ++ [x]) (by rw [he]; simp) (by simp [hd]) (by simpa using hr) (by split <;> omega) (hg.app (Dg.cons (by omega) (by omega) Dg.nil))
   rw [List.length_append, List.length_singleton] at this
   refine zg this ?_
   rw [zan, List.tail_drop]; simp
  have jn : ∀ z, z = (Bl.drop done.length).headD 0 → Ev (fun n => zG.j1 n A Bl (done ++ y :: r) c (done.length : Int) z A.length (done.length : Int)) (D (V (done ++ zan (x :: a) (Bl.drop done.length) c))) := by
   intro z hz
   refine zf ?_
   simp only [zG.j1, zB (n := done.length) (by omega)]
   (repeat (first | with_reducible refine ep ?_ | with_reducible refine en ?_))
   rw [hx]
   have h0 : (0 : Int) ≤ (done.length : Int) := by omega
   have := key z hz
   simp only [h0, if_true]
   exact this
  by_cases hb : (done.length : Int) < (Bl.length : Int)
  ·(repeat (first | with_reducible refine ep ?_ | with_reducible refine en ?_))
   exact jn _ (by rw [zb7, rdn])
  ·(repeat (first | with_reducible refine ep ?_ | with_reducible refine en ?_))
   exact jn 0 (by rw [List.drop_eq_nil_of_le (by omega)]; rfl)
theorem zgE {a b : List Int} (ha : Nm a) (hb : Nm b) (la : a.length ≤ 1000000) (h : V b ≤ V a) : Ev (fun k => zG.f k a b) (D (V a - V b)) := by
 unfold zG.f
 (repeat (first | with_reducible refine ep ?_ | with_reducible refine en ?_))
 have hl : b.length ≤ a.length := by rw [← ha.len, ← hb.len]; exact zbY h
 have := ze0 a b ha.dg hb.dg (by omega) a [] (List.replicate a.length 0) 0 [] rfl rfl (by simp) (by omega) Dg.nil
 refine zg this ?_
 have h2 := zeZ ha.dg hb.dg (c := 0) (by omega) hl (by simpa using h)
 simp [h2.1]
def zbS (m n : Nat) : List Int × Int := if m < n then ([], 10) else (D (m - n), 0)
theorem zet {a b : List Int} (ha : Nm a) (hb : Nm b) (la : a.length ≤ 4096) (lb : b.length ≤ 4096) : Ev (fun k => zaH.f k a b) (zbS (V a) (V b)) := by
 unfold zaH.f zbS
 refine Ev.bind (zcq ha.dg hb.dg (by omega) (by omega)) ?_
 have h1 : may a = true := zae.2 ⟨la, ha⟩
 have h2 : may b = true := zae.2 ⟨lb, hb⟩
 refine ze (by simp [h1, h2]) (Ev.bind (zev ha hb (by omega)) ?_)
 by_cases c : V a < V b
 ·rw [if_pos c]
  refine zd ?_ (Ev.now _)
  unfold zA; rw [if_pos c]; decide
 ·rw [if_neg c]
  refine ze ?_ (Ev.bind (zgE ha hb (by omega) (by omega)) (Ev.now _))
  unfold zA; rw [if_neg c]; split <;> decide
theorem zeH (A Bl : List Int) (hA : Dg A) (hB : Dg Bl) (hl : A.length < 1000000000) (hl2 : Bl.length < 1000000000) : ∀ (d : Nat) (done : List Int) (c : Int), done.length + d = max A.length Bl.length → 0 ≤ c ∧ c ≤ 1 → Dg done →
  V done + 4294967296 ^ done.length * (V (A.drop done.length) + V (Bl.drop done.length) + c.toNat) = V A + V Bl →
  Ev (fun k => zp.l0 k A Bl done c done.length) (D (V A + V Bl))
 | 0, done, c, hd, hc, hg, hv => by
  refine zf ?_
  simp only [zp.l0]
  (repeat (first | with_reducible refine ep ?_ | with_reducible refine en ?_))
  have e : c % 4294967296 = c := by omega
  rw [e]
  refine Ev.bind (zci (hg.app (Dg.cons hc.1 (by omega) Dg.nil)) (by simp; omega)) ?_
  refine zg (Ev.now _) ?_
  rw [List.drop_eq_nil_of_le (by omega), List.drop_eq_nil_of_le (by omega)] at hv
  rw [zas, ← hv]; simp
 | d + 1, done, c, hd, hc, hg, hv => by
  have ha := hA.rd (done.length : Int)
  have hb := hB.rd (done.length : Int)
  have hx := zbt (A.drop done.length)
  have hy := zbt (Bl.drop done.length)
  rw [zb7, List.tail_drop] at hx hy
  have key : ∀ (s : Int), s = A.getD done.length 0 + Bl.getD done.length 0 + c → Ev (fun k => zp.l0 k A Bl (done ++ [s % 4294967296]) (s / 4294967296) ((done.length + 1 : Nat) : Int)) (D (V A + V Bl)) := by
   intro s hs
   have ha' := hA.getD done.length
   have hb' := hB.getD done.length
   have := zeH A Bl hA hB hl hl2 d (done ++ [s % 4294967296]) (s / 4294967296) (by simp; omega) (by omega) (hg.app (Dg.cons (by omega) (by omega) Dg.nil)) (by
    rw [zas, List.length_append, List.length_singleton, Nat.pow_succ, Nat.mul_assoc, Nat.add_assoc, ← Nat.mul_add, ← hv]
    congr 2
    simp only [zv, zE]
    omega)
   rwa [List.length_append, List.length_singleton] at this
  have hr : ∀ l : List Int, rd l (done.length : Int) = l.getD done.length 0 := fun l => rdn l _
  refine zf ?_
  simp only [zp.l0]
  by_cases c1 : done.length < A.length
  ·(repeat (first | with_reducible refine ep ?_ | with_reducible refine en ?_))
   refine zf ?_
   simp only [zp.j2]
   by_cases c2 : done.length < Bl.length
   ·(repeat (first | with_reducible refine ep ?_ | with_reducible refine en ?_))
    refine zf ?_
    simp only [zp.j3, zB (n := done.length) (by omega)]
    (repeat (first | with_reducible refine ep ?_ | with_reducible refine en ?_))
    rw [u64 ha.1 (by omega), u64 hb.1 (by omega), u64 (n := c + rd A (done.length : Int)) (by omega) (by omega), u64 (by omega) (by omega)]
    exact key _ (by rw [hr, hr]; omega)
   ·(repeat (first | with_reducible refine ep ?_ | with_reducible refine en ?_))
    refine zf ?_
    simp only [zp.j3, zB (n := done.length) (by omega)]
    (repeat (first | with_reducible refine ep ?_ | with_reducible refine en ?_))
    rw [u64 ha.1 (by omega), u64 (by omega) (by omega)]
    refine key _ ?_
    have : Bl.getD done.length 0 = 0 := by rw [List.getD_eq_getElem?_getD, List.getElem?_eq_none (by omega)]; rfl
    rw [hr, this]; omega
  ·(repeat (first | with_reducible refine ep ?_ | with_reducible refine en ?_))
   have c2 : done.length < Bl.length := by omega
   refine zf ?_
   simp only [zp.j2]
   (repeat (first | with_reducible refine ep ?_ | with_reducible refine en ?_))
   refine zf ?_
   simp only [zp.j3, zB (n := done.length) (by omega)]
   (repeat (first | with_reducible refine ep ?_ | with_reducible refine en ?_))
   rw [u64 hb.1 (by omega), u64 (by omega) (by omega)]
   refine key _ ?_
   have : A.getD done.length 0 = 0 := by rw [List.getD_eq_getElem?_getD, List.getElem?_eq_none (by omega)]; rfl
   rw [hr, this]; omega
theorem zg1 {a b : List Int} (ha : Dg a) (hb : Dg b) (la : a.length < 1000000000) (lb : b.length < 1000000000) : Ev (fun k => zp.f k a b) (D (V a + V b)) := by
 unfold zp.f
 have := zeH a b ha hb la lb (max a.length b.length) [] 0 (by simp) (by omega) Dg.nil (by simp)
 simpa using this
theorem zeT (A Bl : List Int) (hA : Dg A) (hB : Dg Bl) (hl : A.length < 1000000000) : ∀ (d : Nat) (done : List Int) (c : Int), done.length + d = A.length → 0 ≤ c ∧ c ≤ 1 → Dg done →
  Ev (fun k => zq.l0 k A Bl done c done.length) (D (V (done ++ zan (A.drop done.length) (Bl.drop done.length) c)))
 | 0, done, c, hd, hc, hg => by
  refine zf ?_
  simp only [zq.l0]
  (repeat (first | with_reducible refine ep ?_ | with_reducible refine en ?_))
  rw [List.drop_eq_nil_of_le (show A.length ≤ done.length by omega)]
  simp only [zan, List.append_nil]
  refine Ev.bind (zci hg (by omega)) ?_
  exact Ev.now _
 | d + 1, done, c, hd, hc, hg => by
  have ha := hA.rd (done.length : Int)
  have hb := hB.rd (done.length : Int)
  have hc1 : done.length < A.length := by omega
  have hx : A.drop done.length = A.getD done.length 0 :: A.drop (done.length + 1) := by
   rw [List.drop_eq_getElem_cons hc1]; simp [hc1]
  have key : ∀ (s z : Int), z = Bl.getD done.length 0 → s % 4294967296 = (A.getD done.length 0 - z - c) % 4294967296 → ∀ c', c' = (if A.getD done.length 0 < z + c then 1 else 0) → Ev (fun k => zq.l0 k A Bl (done ++ [s % 4294967296]) c' ((done.length + 1 : Nat) : Int)) (D (V (done ++ zan (A.drop done.length) (Bl.drop done.length) c))) := by
   rintro s z rfl hs c' rfl
   have := zeT A Bl hA hB hl d (done ++ [s % 4294967296]) (if A.getD done.length 0 < Bl.getD done.length 0 + c then 1 else 0) (by simp; omega) (by split <;> omega) (hg.app (Dg.cons (by omega) (by omega) Dg.nil))
   rw [List.length_append, List.length_singleton] at this
   refine zg this ?_
   rw [hx, zan, zb7, List.tail_drop, hs]; simp
  have hr : ∀ l : List Int, rd l (done.length : Int) = l.getD done.length 0 := fun l => rdn l _
  refine zf ?_
  simp only [zq.l0, zB (n := done.length) (by omega)]
  (repeat (first | with_reducible refine ep ?_ | with_reducible refine en ?_))
  rw [hr] at ha hb
  by_cases c2 : done.length < Bl.length
  ·(repeat (first | with_reducible refine ep ?_ | with_reducible refine en ?_))
   refine zf ?_
   simp only [zq.j1]
   (repeat (first | with_reducible refine ep ?_ | with_reducible refine en ?_))
   rw [hr, hr, u64 ha.1 (by omega), u64 hb.1 (by omega), u64 (n := c + Bl.getD done.length 0) (by omega) (by omega)]
   by_cases c3 : A.getD done.length 0 < c + Bl.getD done.length 0
   ·(repeat (first | with_reducible refine ep ?_ | with_reducible refine en ?_))
    rw [u64 (n := A.getD done.length 0 + 4294967296) (by omega) (by omega)]
    refine zf ?_
    simp only [zq.j2, zB (n := done.length) (by omega)]
    (repeat (first | with_reducible refine ep ?_ | with_reducible refine en ?_))
    rw [u64 (by omega) (by omega)]
    exact key _ (Bl.getD done.length 0) rfl (by omega) 1 (by rw [if_pos (by omega)])
   ·(repeat (first | with_reducible refine ep ?_ | with_reducible refine en ?_))
    refine zf ?_
    simp only [zq.j2, zB (n := done.length) (by omega)]
    (repeat (first | with_reducible refine ep ?_ | with_reducible refine en ?_))
    rw [u64 (by omega) (by omega)]
    exact key _ (Bl.getD done.length 0) rfl (by omega) 0 (by rw [if_neg (by omega)])
  ·(repeat (first | with_reducible refine ep ?_ | with_reducible refine en ?_))
   have hz : Bl.getD done.length 0 = 0 := by rw [List.getD_eq_getElem?_getD, List.getElem?_eq_none (by omega)]; rfl
   refine zf ?_
   simp only [zq.j1]
   (repeat (first | with_reducible refine ep ?_ | with_reducible refine en ?_))
   rw [hr, u64 ha.1 (by omega)]
   by_cases c3 : A.getD done.length 0 < c
   ·(repeat (first | with_reducible refine ep ?_ | with_reducible refine en ?_))
    rw [u64 (n := A.getD done.length 0 + 4294967296) (by omega) (by omega)]
    refine zf ?_
    simp only [zq.j2, zB (n := done.length) (by omega)]
    (repeat (first | with_reducible refine ep ?_ | with_reducible refine en ?_))
    rw [u64 (by omega) (by omega)]
    exact key _ (Bl.getD done.length 0) rfl (by omega) 1 (by rw [if_pos (by omega)])
   ·(repeat (first | with_reducible refine ep ?_ | with_reducible refine en ?_))
    refine zf ?_
    simp only [zq.j2, zB (n := done.length) (by omega)]
    (repeat (first | with_reducible refine ep ?_ | with_reducible refine en ?_))
    rw [u64 (by omega) (by omega)]
    exact key _ (Bl.getD done.length 0) rfl (by omega) 0 (by rw [if_neg (by omega)])
theorem zeN {a b : List Int} (ha : Nm a) (hb : Nm b) (la : a.length < 1000000000) (h : V b ≤ V a) : Ev (fun k => zq.f k a b) (D (V a - V b)) := by
 unfold zq.f
 have hl : b.length ≤ a.length := by rw [← ha.len, ← hb.len]; exact zbY h
 have := zeT a b ha.dg hb.dg la a.length [] 0 (by simp) (by omega) Dg.nil
 refine zg this ?_
 have h2 := zeZ ha.dg hb.dg (c := 0) (by omega) hl (by simpa using h)
 simp [h2.1]
theorem zcJ {x y : Int} (hx : 0 ≤ x ∧ x < 4294967296) (hy : 0 ≤ y ∧ y < 4294967296) : 0 ≤ x * y ∧ x * y ≤ 18446744065119617025 := by
 constructor
 ·exact Int.mul_nonneg hx.1 hy.1
 ·have h1 : x * y ≤ 4294967295 * y := Int.mul_le_mul_of_nonneg_right (by omega) hy.1
  have h2 : 4294967295 * y ≤ 4294967295 * 4294967295 := Int.mul_le_mul_of_nonneg_left (by omega) (by omega)
  omega
def zD : Int → List Int → List Int → Int → List Int
 | _, [], o, c => c :: o.tail
 | x, y :: b, o, c => ((x * y + o.headD 0 + c) % 4294967296) :: zD x b o.tail ((x * y + o.headD 0 + c) / 4294967296)
theorem zdw {x y : Int} (hx : 0 ≤ x) (hy : 0 ≤ y) : (x * y).toNat = x.toNat * y.toNat := Int.toNat_mul hx hy
theorem zdt {x : Int} (hx : 0 ≤ x ∧ x < 4294967296) : ∀ (b o : List Int) (c : Int) (m : Nat), Dg b → Dg o → 0 ≤ c ∧ c < 4294967296 → o.drop b.length = List.replicate (m + 1) 0 →
  V (zD x b o c) = V o + x.toNat * V b + c.toNat ∧ Dg (zD x b o c) ∧ (zD x b o c).tail.drop b.length = List.replicate m 0 ∧ (zD x b o c).length = o.length
 | [], o, c, m, hb, ho, hc, hz => by
  have hz' : o = 0 :: List.replicate m 0 := by simpa [List.replicate_succ] using hz
  subst hz'
  refine ⟨?_, ?_, ?_, ?_⟩
  ·simp [zD, zc2]
  ·exact Dg.cons hc.1 hc.2 (Dg.zeros m)
  ·simp [zD]
  ·simp [zD]
 | y :: b, o, c, m, hb, ho, hc, hz => by
  obtain ⟨o0, o, rfl⟩ : ∃ o0 o', o = o0 :: o' := by
   cases o with
   | nil => simp at hz
   | cons o0 o' => exact ⟨o0, o', rfl⟩
  have hy := hb.head
  have h0 := ho.head
  have hp := zcJ hx hy
  have hz2 : o.drop b.length = List.replicate (m + 1) 0 := by simpa using hz
  have := zdt hx b o ((x * y + o0 + c) / 4294967296) m hb.tail ho.tail (by omega) hz2
  simp only [zD, List.headD_cons, List.tail_cons]
  refine ⟨?_, Dg.cons (by omega) (by omega) this.2.1, ?_, by simp [this.2.2.2]⟩
  ·have e1 : x.toNat * (y.toNat + 4294967296 * V b) = (x * y).toNat + 4294967296 * (x.toNat * V b) := by
    rw [Nat.mul_add, Nat.mul_left_comm, zdw hx.1 hy.1]
   rw [zv, this.1, zv, zv, e1]
   omega
  ·obtain ⟨r0, r, hr⟩ : ∃ r0 r', zD x b o ((x * y + o0 + c) / 4294967296) = r0 :: r' := by
    cases h : zD x b o ((x * y + o0 + c) / 4294967296) with
    | nil =>
     have hl := this.2.2.2
     rw [h] at hl
     have : o = [] := List.eq_nil_of_length_eq_zero (by simpa using hl.symm)
     subst this; simp at hz2
    | cons r0 r' => exact ⟨r0, r', rfl⟩
   have h3 := this.2.2.1
   rw [hr] at h3 ⊢
   simpa using h3
def zaG : List Int → List Int → List Int → List Int
 | [], _, o => o
 | x :: a, b, o => (zD x b o 0).headD 0 :: zaG a b (zD x b o 0).tail
theorem zep : ∀ (a b o : List Int), Dg a → Dg b → Dg o → o.drop b.length = List.replicate a.length 0 → V (zaG a b o) = V o + V a * V b ∧ Dg (zaG a b o) ∧ (zaG a b o).length = o.length
 | [], b, o, ha, hb, ho, hz => by simp [zaG, ho]
 | x :: a, b, o, ha, hb, ho, hz => by
  have hr := zdt ha.head b o 0 a.length hb ho (by omega) (by simpa using hz)
  obtain ⟨r0, r, he⟩ : ∃ r0 r', zD x b o 0 = r0 :: r' := by
   cases h : zD x b o 0 with
   | nil =>
    have hl := hr.2.2.2
    rw [h] at hl
    have : o = [] := List.eq_nil_of_length_eq_zero (by simpa using hl.symm)
    subst this; simp at hz
   | cons r0 r' => exact ⟨r0, r', rfl⟩
  rw [he] at hr
  have := zep a b r ha.tail hb hr.2.1.tail (by simpa using hr.2.2.1)
  simp only [zaG, he, List.headD_cons, List.tail_cons]
  refine ⟨?_, Dg.cons hr.2.1.head.1 hr.2.1.head.2 this.2.1, ?_⟩
  ·have h1 := hr.1
   rw [zv] at h1
   rw [zv, this.1, zv, Nat.add_mul, Nat.mul_add, Nat.mul_assoc]
   simp at h1
   omega
  ·have := hr.2.2.2
   simp at this ⊢; omega
theorem zcX {l : List Int} (h : Nm l) (h0 : l ≠ []) : 4294967296 ^ (l.length - 1) ≤ V l := by
 have h1 : V l ≠ 0 := fun e => h0 ((zb0 h).1 e)
 have := zfm h1
 rwa [h.len] at this
def conv : List Int → List Int → Nat → Nat
 | [], _, _ => 0
 | x :: _, b, 0 => x.toNat * (b.getD 0 0).toNat
 | x :: a, b, k + 1 => x.toNat * (b.getD (k + 1) 0).toNat + conv a b k
def zap (a b : List Int) : Nat → Nat
 | 0 => 0
 | n + 1 => zap a b n + 4294967296 ^ n * conv a b n
theorem zdI (l : List Int) (n : Nat) : V (l.take (n + 1)) = V (l.take n) + 4294967296 ^ n * (l.getD n 0).toNat := by
 by_cases h : n < l.length
 ·exact zc1 h
 ·have e : l.getD n 0 = 0 := by rw [List.getD_eq_getElem?_getD, List.getElem?_eq_none (by omega)]; rfl
  rw [List.take_of_length_le (by omega), List.take_of_length_le (by omega), e]; simp
theorem zfQ (b : List Int) (n : Nat) : zap [] b n = 0 := by
 induction n with
 | zero => rfl
 | succ n ih => simp [zap, ih, conv]
theorem zfP (x : Int) (a b : List Int) (n : Nat) : zap (x :: a) b (n + 1) = x.toNat * V (b.take (n + 1)) + 4294967296 * zap a b n := by
 induction n with
 | zero =>
  have := zdI b 0
  simp at this
  simp [zap, conv, this]
 | succ n ih =>
  have e := zdI b (n + 1)
  rw [zap, ih, conv, e, zap, Nat.pow_succ]
  grind
theorem zfO (a b : List Int) (n : Nat) (h : a.length + b.length ≤ n) : zap a b n = V a * V b := by
 induction a generalizing n with
 | nil => simp [zfQ]
 | cons x a ih =>
  cases n with
  | zero => simp at h
  | succ n =>
   rw [zfP, ih n (by simp at h; omega), List.take_of_length_le (by simp at h; omega), zv, Nat.add_mul, Nat.mul_assoc]
theorem zfS {a b : List Int} (ha : Dg a) (hb : Dg b) (k : Nat) : conv a b k ≤ a.length * 18446744065119617025 := by
 induction a generalizing k with
 | nil => simp [conv]
 | cons x a ih =>
  have hx := ha.head
  have key : ∀ j, x.toNat * (b.getD j 0).toNat ≤ 18446744065119617025 := by
   intro j
   have hy := hb.getD j
   have hp := zcJ hx hy
   rw [← zdw hx.1 hy.1]; omega
  cases k with
  | zero => rw [conv]; have := key 0; simp only [List.length_cons]; omega
  | succ k => rw [conv]; have := key (k + 1); have := ih ha.tail k; simp only [List.length_cons]; omega
theorem zfR {a b : List Int} {k : Nat} (h : b.length ≤ k) (hk : 0 < k) : conv a b k = conv (a.drop 1) b (k - 1) := by
 cases a with
 | nil => simp [conv]
 | cons x a =>
  obtain ⟨k, rfl⟩ : ∃ m, k = m + 1 := ⟨k - 1, by omega⟩
  have e : b.getD (k + 1) 0 = 0 := by rw [List.getD_eq_getElem?_getD, List.getElem?_eq_none (by omega)]; rfl
  rw [conv, e]; simp
theorem zea (a b : List Int) (k : Nat) : ∀ n, n + b.length ≤ k + 1 → n ≤ k → conv a b k = conv (a.drop n) b (k - n)
 | 0, _, _ => by simp
 | n + 1, h, hk => by
  rw [zea a b k n (by omega) (by omega), zfR (by omega) (by omega), List.drop_drop]
  rw [Nat.sub_sub]
theorem zgK {x y : Int} (h0 : 0 ≤ x ∧ x < 4294967296) (h1 : 0 ≤ y) : Go.bits .or .u64 x (IntKind.u64.wrap (y * 4294967296)) = x + (y % 4294967296) * 4294967296 := by
 rw [zbT]
 obtain ⟨X, rfl⟩ := Int.eq_ofNat_of_zero_le h0.1
 obtain ⟨Y, rfl⟩ := Int.eq_ofNat_of_zero_le h1
 have e : (Y : Int) * 4294967296 % 18446744073709551616 = ((2 ^ 32 * (Y % 4294967296) : Nat) : Int) := by omega
 rw [e, u64_or_nat _ _ (by omega) (by omega), Nat.or_comm, ← Nat.two_pow_add_eq_or_of_lt (by omega)]
 omega
theorem zds (A Bl : List Int) (hA : Dg A) (hB : Dg Bl) (hl : A.length < 1000000000) (hlb : Bl.length < 1000000000) (out : List Int) (k : Nat) (hk : k < A.length + Bl.length) (hout : out.length < 1000000000) (T : Nat) (hT : T < 79228162514264337593543950336000) (res : List Int)
  (H : Ev (fun q => zo.l0 q A Bl (out ++ [((T % 4294967296 : Nat) : Int)]) (((T / 4294967296) % 18446744073709551616 : Nat) : Int) (((T / 4294967296) / 18446744073709551616 : Nat) : Int) ((k + 1 : Nat) : Int)) res) :
  ∀ (d i : Nat) (low high : Int), i + d = k + 1 → 0 ≤ low ∧ low < 18446744073709551616 → 0 ≤ high → k < i + Bl.length → low.toNat + 18446744073709551616 * high.toNat + (if i ≤ k then conv (A.drop i) Bl (k - i) else 0) = T →
  Ev (fun q => zo.l1 q A Bl out low high k i) res
 | d, i, low, high, hd, hlow, hhigh, hi, he => by
  have fin : low.toNat + 18446744073709551616 * high.toNat = T → Ev (fun q => if out.length + ([low % 4294967296] : List Int).length < 35184372088832 then zo.l0 q A Bl (out ++ [low % 4294967296]) (Go.bits .or .u64 (low / 4294967296) (IntKind.u64.wrap (high * 4294967296))) (high / 4294967296) ((k + 1 : Nat) : Int) else none) res := by
   intro e
   (repeat (first | with_reducible refine ep ?_ | with_reducible refine en ?_))
   rw [zgK (by omega) hhigh]
   have e1 : low % 4294967296 = ((T % 4294967296 : Nat) : Int) := by omega
   have e2 : low / 4294967296 + high % 4294967296 * 4294967296 = (((T / 4294967296) % 18446744073709551616 : Nat) : Int) := by omega
   have e3 : high / 4294967296 = (((T / 4294967296) / 18446744073709551616 : Nat) : Int) := by omega
   rw [e1, e2, e3]; exact H
  refine zf ?_
  have e : wrap64 ((k : Int) - (i : Int)) = (k : Int) - (i : Int) := by unfold wrap64; omega
  simp only [zo.l1, e, zB (n := i) (by omega), zB (n := k) (by omega)]
  clear e
  by_cases c1 : i ≤ k
  ·rw [if_pos c1] at he
   by_cases c2 : i < A.length
   ·have hx : A.drop i = A.getD i 0 :: A.drop (i + 1) := by rw [List.drop_eq_getElem_cons c2]; simp [c2]
    have ha := hA.getD i
    have hb := hB.getD (k - i)
    have hp := zcJ ha hb
    have hpN := zdw ha.1 hb.1
    have e : (k : Int) - (i : Int) = ((k - i : Nat) : Int) := by omega
    (repeat (first | with_reducible refine ep ?_ | with_reducible refine en ?_))
    rw [e]
    rw [rdn, rdn, u64 ha.1 (by omega), u64 hb.1 (by omega), u64 hp.1 (by omega)]
    generalize hP : A.getD i 0 * Bl.getD (k - i) 0 = P at *
    have hc : conv (A.drop i) Bl (k - i) = P.toNat + (if i + 1 ≤ k then conv (A.drop (i + 1)) Bl (k - (i + 1)) else 0) := by
     rw [hx, hpN]
     by_cases c3 : i + 1 ≤ k
     ·rw [if_pos c3, show k - i = (k - (i + 1)) + 1 by omega, conv]
     ·rw [if_neg c3, show k - i = 0 by omega, conv]; simp
    rw [hc] at he
    obtain ⟨d, rfl⟩ : ∃ m, d = m + 1 := ⟨d - 1, by omega⟩
    by_cases c4 : low + P < 18446744073709551616
    ·rw [u64 (n := low + P) (by omega) (by omega)]
     (repeat (first | with_reducible refine ep ?_ | with_reducible refine en ?_))
     exact zds A Bl hA hB hl hlb out k hk hout T hT res H d (i + 1) (low + P) high (by omega) (by omega) hhigh (by omega) (by omega)
    ·have e5 : IntKind.u64.wrap (low + P) = low + P - 18446744073709551616 := by rw [zbT]; omega
     rw [e5]
     (repeat (first | with_reducible refine ep ?_ | with_reducible refine en ?_))
     rw [u64 (n := high + 1) (by omega) (by omega)]
     exact zds A Bl hA hB hl hlb out k hk hout T hT res H d (i + 1) (low + P - 18446744073709551616) (high + 1) (by omega) (by omega) (by omega) (by omega) (by omega)
   ·refine zd (by omega) (ze (by omega) (fin ?_))
    rw [List.drop_eq_nil_of_le (by omega), conv] at he
    omega
  ·rw [if_neg c1] at he
   exact ze (by omega) (fin (by omega))
theorem zeR (A Bl : List Int) (hA : Dg A) (hB : Dg Bl) (hl : A.length < 100000000) (hlb : Bl.length < 100000000) (hb0 : 0 < Bl.length) : ∀ (d : Nat) (out : List Int) (T : Nat), out.length + d = A.length + Bl.length → Dg out → T < 79228162514264337593543950336 → V out + 4294967296 ^ out.length * T = zap A Bl out.length →
  Ev (fun q => zo.l0 q A Bl out ((T % 18446744073709551616 : Nat) : Int) ((T / 18446744073709551616 : Nat) : Int) out.length) (D (V A * V Bl))
 | 0, out, T, hd, hg, hT, hv => by
  refine zf ?_
  have e : wrap64 ((A.length : Int) + (Bl.length : Int)) = ((A.length + Bl.length : Nat) : Int) := by unfold wrap64; omega
  simp only [zo.l0, e]
  clear e
  refine ze (by omega) (Ev.bind (zci hg (by omega)) (zg (Ev.now _) ?_))
  rw [zfO A Bl _ (by omega)] at hv
  have h1 := zaJ hA
  have h2 := zaJ hB
  have h3 : V A * V Bl < 4294967296 ^ out.length := by
   rw [show out.length = A.length + Bl.length by omega, Nat.pow_add]
   exact Nat.mul_lt_mul'' h1 h2
  have h4 : T = 0 := by
   rcases Nat.eq_zero_or_pos T with h | h
   ·exact h
   ·have := Nat.mul_le_mul_left (4294967296 ^ out.length) h
    omega
  subst h4
  rw [← hv]; simp
 | d + 1, out, T, hd, hg, hT, hv => by
  refine zf ?_
  have e : wrap64 ((A.length : Int) + (Bl.length : Int)) = ((A.length + Bl.length : Nat) : Int) := by unfold wrap64; omega
  simp only [zo.l0, e]
  clear e
  have hcl := zfS hA hB out.length
  have hcl2 : A.length * 18446744065119617025 ≤ 100000000 * 18446744065119617025 := Nat.mul_le_mul_right _ (by omega)
  have next : Ev (fun q => zo.l0 q A Bl (out ++ [(((T + conv A Bl out.length) % 4294967296 : Nat) : Int)]) ((((T + conv A Bl out.length) / 4294967296) % 18446744073709551616 : Nat) : Int) ((((T + conv A Bl out.length) / 4294967296) / 18446744073709551616 : Nat) : Int) ((out.length + 1 : Nat) : Int)) (D (V A * V Bl)) := by
   have := zeR A Bl hA hB hl hlb hb0 d (out ++ [(((T + conv A Bl out.length) % 4294967296 : Nat) : Int)]) ((T + conv A Bl out.length) / 4294967296) (by simp; omega) (hg.app (Dg.cons (by omega) (by omega) Dg.nil)) (by omega) (by
    rw [zas, List.length_append, List.length_singleton, zap, ← hv, Nat.pow_succ, Nat.mul_assoc, Nat.add_assoc, ← Nat.mul_add, Nat.add_assoc, ← Nat.mul_add]
    congr 2
    simp only [zv, zE]
    omega)
   rwa [List.length_append, List.length_singleton] at this
  (repeat (first | with_reducible refine ep ?_ | with_reducible refine en ?_))
  have j2 : ∀ (i : Nat), i ≤ out.length → out.length < i + Bl.length → conv A Bl out.length = conv (A.drop i) Bl (out.length - i) → Ev (fun q => zo.j3 q A Bl out ((T % 18446744073709551616 : Nat) : Int) ((T / 18446744073709551616 : Nat) : Int) out.length i) (D (V A * V Bl)) := by
   intro i h1 h2 h3
   refine zf ?_
   simp only [zo.j3]
   exact zds A Bl hA hB (by omega) (by omega) out out.length (by omega) (by omega) (T + conv A Bl out.length) (by omega) _ next (out.length + 1 - i) i _ _ (by omega) (by omega) (by omega) h2 (by rw [if_pos h1, ← h3]; omega)
  by_cases c1 : out.length ≥ Bl.length
  ·(repeat (first | with_reducible refine ep ?_ | with_reducible refine en ?_))
   have c2 := hb0
   ·have e : wrap64 (wrap64 ((out.length : Int) - (Bl.length : Int)) + 1) = ((out.length + 1 - Bl.length : Nat) : Int) := by unfold wrap64; omega
    rw [e]
    clear e
    exact j2 _ (by omega) (by omega) (zea A Bl out.length _ (by omega) (by omega))
  ·(repeat (first | with_reducible refine ep ?_ | with_reducible refine en ?_)); exact j2 0 (by omega) (by omega) (by simp)
theorem zg7 {a b : List Int} (ha : Dg a) (hb : Dg b) (la : a.length < 100000000) (lb : b.length < 100000000) : Ev (fun k => zo.f k a b) (D (V a * V b)) := by
 unfold zo.f
 by_cases c1 : a.length = 0
 ·(repeat (first | with_reducible refine ep ?_ | with_reducible refine en ?_))
  have : a = [] := List.eq_nil_of_length_eq_zero c1
  subst this
  refine zg (Ev.now _) ?_
  simp [zC]
 ·(repeat (first | with_reducible refine ep ?_ | with_reducible refine en ?_))
  by_cases c2 : b.length = 0
  ·(repeat (first | with_reducible refine ep ?_ | with_reducible refine en ?_))
   have : b = [] := List.eq_nil_of_length_eq_zero c2
   subst this
   refine zg (Ev.now _) ?_
   simp [zC]
  ·(repeat (first | with_reducible refine ep ?_ | with_reducible refine en ?_))
   have := zeR a b ha hb la lb (by omega) (a.length + b.length) [] 0 (by simp) Dg.nil (by omega) (by simp [zap])
   simpa using this
def bl (n : Nat) : Nat := if n = 0 then 0 else n.log2 + 1
theorem zcs : bl 0 = 0 := rfl
theorem zdW {n : Nat} (h : n ≠ 0) : 2 ^ (bl n - 1) ≤ n := by
 unfold bl; rw [if_neg h]; exact Nat.log2_self_le h
theorem zax (n : Nat) : n < 2 ^ bl n := by
 unfold bl
 split
 ·subst n; simp
 ·exact Nat.lt_log2_self
theorem zdY {n : Nat} (h : n ≠ 0) : 0 < bl n := by unfold bl; rw [if_neg h]; omega
theorem zaC {n k : Nat} (h : n < 2 ^ k) : bl n ≤ k := by
 by_cases e : n = 0
 ·subst e; simp [zcs]
 ·have h1 := zdW e
  have h2 := zdY e
  have : bl n - 1 < k := (Nat.pow_lt_pow_iff_right (a := 2) (by omega)).1 (Nat.lt_of_le_of_lt h1 h)
  omega
theorem zfE {n k : Nat} (h1 : 2 ^ k ≤ n) (h2 : n < 2 ^ (k + 1)) : bl n = k + 1 := by
 have := zaC h2
 have h3 : 2 ^ k < 2 ^ bl n := Nat.lt_of_le_of_lt h1 (zax n)
 have := (Nat.pow_lt_pow_iff_right (a := 2) (by omega)).1 h3
 omega
theorem zbv {n k : Nat} (h : 2 ^ k ≤ n) : bl n = k + bl (n / 2 ^ k) := by
 have hp : 0 < 2 ^ k := Nat.pow_pos (by omega)
 have h0 : n / 2 ^ k ≠ 0 := by
  have := (Nat.le_div_iff_mul_le hp (x := 1) (y := n)).2 (by omega)
  omega
 have h1 := zdW h0
 have h2 := zax (n / 2 ^ k)
 have h3 := zdY h0
 have e : k + bl (n / 2 ^ k) = (k + (bl (n / 2 ^ k) - 1)) + 1 := by omega
 rw [e]
 apply zfE
 ·rw [Nat.pow_add]
  have := (Nat.le_div_iff_mul_le hp).1 h1
  rw [Nat.mul_comm]; exact this
 ·have := (Nat.div_lt_iff_lt_mul hp).1 h2
  rw [show k + (bl (n / 2 ^ k) - 1) + 1 = bl (n / 2 ^ k) + k by omega, Nat.pow_add]
  exact this
theorem zfD {n : Nat} (h : n ≠ 0) : bl n = bl (n / 2) + 1 := by
 by_cases h1 : n = 1
 ·subst h1; rfl
 ·have := zbv (n := n) (k := 1) (by omega)
  simp at this; omega
theorem zb3 {a b : Nat} (h : a ≤ b) : bl a ≤ bl b := zaC (Nat.lt_of_le_of_lt h (zax b))
def ze5 : ByteArray := ⟨#[0, 1, 2, 2, 3, 3, 3, 3, 4, 4, 4, 4, 4, 4, 4, 4, 5, 5, 5, 5, 5, 5, 5, 5, 5, 5, 5, 5, 5, 5, 5, 5, 6, 6, 6, 6, 6, 6, 6, 6, 6, 6, 6, 6, 6, 6, 6, 6, 6, 6, 6, 6, 6, 6, 6, 6, 6, 6, 6, 6, 6, 6, 6, 6, 7, 7, 7, 7, 7, 7, 7, 7, 7, 7, 7, 7, 7, 7, 7, 7, 7, 7, 7, 7, 7, 7, 7, 7, 7, 7, 7, 7, 7, 7, 7, 7, 7, 7, 7, 7, 7, 7, 7, 7, 7, 7, 7, 7, 7, 7, 7, 7, 7, 7, 7, 7, 7, 7, 7, 7, 7, 7, 7, 7, 7, 7, 7, 7, 8, 8, 8, 8, 8, 8, 8, 8, 8, 8, 8, 8, 8, 8, 8, 8, 8, 8, 8, 8, 8, 8, 8, 8, 8, 8, 8, 8, 8, 8, 8, 8, 8, 8, 8, 8, 8, 8, 8, 8, 8, 8, 8, 8, 8, 8, 8, 8, 8, 8, 8, 8, 8, 8, 8, 8, 8, 8, 8, 8, 8, 8, 8, 8, 8, 8, 8, 8, 8, 8, 8, 8, 8, 8, 8, 8, 8, 8, 8, 8, 8, 8, 8, 8, 8, 8, 8, 8, 8, 8, 8, 8, 8, 8, 8, 8, 8, 8, 8, 8, 8, 8, 8, 8, 8, 8, 8, 8, 8, 8, 8, 8, 8, 8, 8, 8, 8, 8, 8, 8, 8, 8, 8, 8, 8, 8, 8, 8]⟩
theorem zhw : (List.range 256).all (fun i => bt ze5 (i : Int) == (bl i : Int)) = true := by decide +kernel
theorem bt8 {t : ByteArray} {n : Nat} (h : n < 256) (ht : t = ze5) : bt t (n : Int) = (bl n : Int) := by
 subst ht
 have := List.all_eq_true.1 zhw n (List.mem_range.2 h)
 exact eq_of_beq this
theorem zfC {n : Nat} (h : n < 256) : bl n ≤ 8 := zaC h
theorem zgl : zdx.size = 256 := by decide +kernel
theorem zel {n : Nat} (h : n < 256) {m : Int} (hm : 0 ≤ m ∧ m ≤ 64) : Ev (fun k => zJ.j1 k (n : Int) m) (m + (bl n : Nat)) := by
 refine zf ?_
 simp only [zJ.j1]
 have e : (n : Int) % 256 = n := by omega
 have l := zfC h
 rw [e, zgl]
 (repeat (first | with_reducible refine ep ?_ | with_reducible refine en ?_))
 rw [bt8 h (by rfl), zar (n := ((bl n : Nat) : Int)) (by omega) (by omega), zar (by omega) (by omega)]
 exact Ev.now _
theorem zek {n : Nat} (h : n < 65536) {m : Int} (hm : 0 ≤ m ∧ m ≤ 32) : Ev (fun k => zJ.j0 k (n : Int) m) (m + (bl n : Nat)) := by
 refine zf ?_
 simp only [zJ.j0]
 by_cases c : n ≥ 256
 ·(repeat (first | with_reducible refine ep ?_ | with_reducible refine en ?_))
  have e2 : bl n = 8 + bl (n / 256) := zbv (k := 8) c
  have := zel (n := n / 256) (by omega) (m := m + 8) (by omega)
  rw [zar (by omega) (by omega), show (n : Int) / 256 = ((n / 256 : Nat) : Int) by omega]
  exact zg this (by rw [e2]; omega)
 ·(repeat (first | with_reducible refine ep ?_ | with_reducible refine en ?_))
  exact zel (by omega) (by omega)
theorem zgk {x : Int} (h : 0 ≤ x ∧ x < 4294967296) : Ev (fun k => zJ.f k x) ((bl x.toNat : Nat) : Int) := by
 obtain ⟨n, rfl⟩ := Int.eq_ofNat_of_zero_le h.1
 unfold zJ.f
 rw [Int.toNat_natCast]
 by_cases c : n ≥ 65536
 ·(repeat (first | with_reducible refine ep ?_ | with_reducible refine en ?_))
  have e1 : bl n = 16 + bl (n / 65536) := zbv (k := 16) c
  rw [show (n : Int) / 65536 = ((n / 65536 : Nat) : Int) by omega]
  exact zg (zek (by omega) (by omega)) (by rw [e1]; omega)
 ·(repeat (first | with_reducible refine ep ?_ | with_reducible refine en ?_))
  exact zg (zek (by omega) (by omega)) (by omega)
theorem zha : ∀ (n : Nat) (m : Int), 0 ≤ m ∧ m + (bl n : Nat) < 4611686018427387904 → n < 4294967296 → Ev (fun k => z9.l0 k m n) (m + (bl n : Nat)) := by
 intro n
 induction n using Nat.strongRecOn with
 | _ n ih =>
  intro m hm hn
  refine zf ?_
  simp only [z9.l0]
  by_cases c : n = 0
  ·subst c
   (repeat (first | with_reducible refine ep ?_ | with_reducible refine en ?_))
   exact zg (Ev.now _) (by simp [zcs])
  ·(repeat (first | with_reducible refine ep ?_ | with_reducible refine en ?_))
   have e : (n : Int) / 2 = ((n / 2 : Nat) : Int) := by omega
   have hb := zfD c
   rw [e, zar (by omega) (by omega)]
   refine zg (ih (n / 2) (by omega) (m + 1) (by omega) (by omega)) ?_
   omega
theorem zdS {l : List Int} (h : Nm l) (h0 : l ≠ []) : bl (V l) = 32 * (l.length - 1) + bl (l.getD (l.length - 1) 0).toNat := by
 rcases List.eq_nil_or_concat l with rfl | ⟨a, d, rfl⟩
 ·exact absurd rfl h0
 rw [List.concat_eq_append] at h ⊢
 have hd := h.dg d (by simp)
 have hn := zdC h
 have e : (a ++ [d]).getD ((a ++ [d]).length - 1) 0 = d := by simp
 rw [e]
 have hl : (a ++ [d]).length - 1 = a.length := by simp
 rw [hl, zas]
 simp only [zv, zE, Nat.mul_zero, Nat.add_zero]
 have hv := zaJ h.dg.left
 have hp : (4294967296 : Nat) ^ a.length = 2 ^ (32 * a.length) := by rw [Nat.pow_mul]
 rw [hp] at hv ⊢
 have hpos : 0 < 2 ^ (32 * a.length) := Nat.pow_pos (by omega)
 have hd1 : 2 ^ (32 * a.length) * 1 ≤ 2 ^ (32 * a.length) * d.toNat := Nat.mul_le_mul_left _ (by omega)
 rw [zbv (n := V a + 2 ^ (32 * a.length) * d.toNat) (k := 32 * a.length) (by omega)]
 rw [Nat.add_mul_div_left _ _ hpos, Nat.div_eq_of_lt hv, Nat.zero_add]
theorem zdr {l : List Int} (h : Nm l) (hb : l.length < 1000000000) : Ev (fun k => z9.f k l) ((bl (V l) : Nat) : Int) := by
 unfold z9.f
 by_cases c : l.length = 0
 ·have : l = [] := List.eq_nil_of_length_eq_zero c
  subst this
  (repeat (first | with_reducible refine ep ?_ | with_reducible refine en ?_)); exact Ev.now _
 ·(repeat (first | with_reducible refine ep ?_ | with_reducible refine en ?_))
  have e : wrap64 ((l.length : Int) - 1) = ((l.length - 1 : Nat) : Int) := by unfold wrap64; omega
  rw [e]
  clear e
  (repeat (first | with_reducible refine ep ?_ | with_reducible refine en ?_))
  have hd := h.dg.getD (l.length - 1)
  rw [rdn, zar (by omega) (by omega)]
  generalize hx : l.getD (l.length - 1) 0 = x at hd
  obtain ⟨n, rfl⟩ := Int.eq_ofNat_of_zero_le hd.1
  have hbn : bl n ≤ 32 := zaC (by omega)
  refine zg (zha n _ (by omega) (by omega)) ?_
  have hne : l ≠ [] := fun e => c (by rw [e]; rfl)
  have hm := zdB h.dg |>.1 h
  rw [zdS h hne, hx]
  simp
theorem pw {s : Nat} (h : s ≤ 32) : 2 ^ s * 2 ^ (32 - s) = 4294967296 := by
 rw [← Nat.pow_add]; have : s + (32 - s) = 32 := by omega
 rw [this]
theorem zt (s : Nat) : 0 < 2 ^ s := Nat.pow_pos (by omega)
theorem zbQ {X P Q c : Nat} (hP : 0 < P) (hc : c < P) : (X * P + c) / (P * Q) = X / Q ∧ (X * P + c) % (P * Q) = P * (X % Q) + c := by
 have h1 : (X * P + c) / P = X := by rw [Nat.mul_comm, Nat.mul_add_div hP, Nat.div_eq_of_lt hc, Nat.add_zero]
 have h2 : (X * P + c) % P = c := by rw [Nat.mul_comm, Nat.mul_add_mod, Nat.mod_eq_of_lt hc]
 exact ⟨by rw [← Nat.div_div_eq_div_mul, h1], by rw [Nat.mod_mul, h1, h2, Nat.add_comm]⟩
theorem zdo (s : Nat) : ((2 : Int) ^ s) = ((2 ^ s : Nat) : Int) := by simp
theorem zho (X s : Nat) (hs : s < 32) : shl .u32 (X : Int) (s : Int) = ((X * 2 ^ s % 4294967296 : Nat) : Int) := by
 unfold shl
 rw [Int.toNat_natCast, Nat.min_eq_left (by simp [IntKind.bits]; omega), zdo, ← Int.natCast_mul]
 simp [IntKind.wrap, IntKind.bits, IntKind.signed]
theorem zdv (X s : Nat) (hs : s ≤ 32) (hX : X < 4294967296) : shl .u64 (X : Int) (s : Int) = ((X * 2 ^ s : Nat) : Int) := by
 unfold shl
 rw [Int.toNat_natCast, Nat.min_eq_left (by simp [IntKind.bits]; omega), zdo, ← Int.natCast_mul]
 have h1 : 2 ^ s ≤ 2 ^ 32 := Nat.pow_le_pow_right (by omega) hs
 have h2 : X * 2 ^ s ≤ 4294967295 * 2 ^ 32 := Nat.mul_le_mul (by omega) h1
 exact u64 (by omega) (by omega)
theorem zbR {k : IntKind} (X s : Nat) (hs : s ≤ k.bits) : shr k (X : Int) (s : Int) = ((X / 2 ^ s : Nat) : Int) := by
 unfold shr
 rw [Int.toNat_natCast, Nat.min_eq_left hs, zdo, ← Int.natCast_ediv]
theorem zbX (X : Nat) (hX : X < 4294967296) : IntKind.u64.wrap (X : Int) = (X : Int) := u64 (by omega) (by omega)
theorem zdz {s : Nat} (hs : s ≤ 32) : wrap64 (32 - (s : Int)) = ((32 - s : Nat) : Int) := by unfold wrap64; omega
theorem zb6 {X s : Nat} (hs : s ≤ 32) (hX : X < 4294967296) : X / 2 ^ s < 2 ^ (32 - s) := by
 rw [Nat.div_lt_iff_lt_mul (zt _), Nat.mul_comm, pw hs]; exact hX
theorem zhE (X s c : Nat) (hs : s < 32) (hX : X < 4294967296) (hc : c < 2 ^ s) : Go.bits .or .u32 (shl .u32 (X : Int) (s : Int)) (c : Int) = (((X * 2 ^ s + c) % 4294967296 : Nat) : Int) := by
 have h1 := (zbQ (X := X) (Q := 2 ^ (32 - s)) (zt s) hc).2
 have h0 := (zbQ (X := X) (Q := 2 ^ (32 - s)) (c := 0) (zt s) (zt s)).2
 have hle : 2 ^ s ≤ 2 ^ 31 := Nat.pow_le_pow_right (by omega) (by omega)
 rw [pw (by omega)] at h1 h0
 rw [zho _ _ hs, u32_or_nat _ _ (by omega) (by omega), h1]
 rw [Nat.add_zero, Nat.add_zero] at h0
 rw [h0, ← Nat.two_pow_add_eq_or_of_lt hc]
theorem zhD (X s c : Nat) (hs : s < 32) (hX : X < 4294967296) (hc : c < 2 ^ s) : (shr .u64 (IntKind.u64.wrap (X : Int)) (wrap64 (32 - (s : Int)))) % 4294967296 = (((X * 2 ^ s + c) / 4294967296 : Nat) : Int) := by
 have h1 := (zbQ (X := X) (Q := 2 ^ (32 - s)) (zt s) hc).1
 rw [pw (by omega)] at h1
 rw [zbX _ hX, zdz (by omega), zbR _ _ (by simp [IntKind.bits]; omega), h1]
 have := zb6 (s := 32 - s) (by omega) hX
 have h3 : X / 2 ^ (32 - s) ≤ X := Nat.div_le_self _ _
 omega
theorem zdy (X s c : Nat) (hs : s < 32) (hX : X < 4294967296) (hc : c < 2 ^ s) : (X * 2 ^ s + c) / 4294967296 < 2 ^ s := by
 have h1 := (zbQ (X := X) (Q := 2 ^ (32 - s)) (zt s) hc).1
 rw [pw (by omega)] at h1
 rw [h1]
 have := zb6 (s := 32 - s) (by omega) hX
 have e : 32 - (32 - s) = s := by omega
 rwa [e] at this
theorem zhi (X s c : Nat) (hs : s < 32) (hX : X < 4294967296) (hc : c < 2 ^ s) : Go.bits .or .u64 (c : Int) (shl .u64 (IntKind.u64.wrap (X : Int)) (s : Int)) = ((X * 2 ^ s + c : Nat) : Int) := by
 have hle : 2 ^ s ≤ 2 ^ 31 := Nat.pow_le_pow_right (by omega) (by omega)
 have h2 : X * 2 ^ s ≤ 4294967295 * 2 ^ 31 := Nat.mul_le_mul (by omega) hle
 rw [zbX _ hX, zdv _ _ (by omega) hX, u64_or_nat _ _ (by omega) (by omega), Nat.or_comm, Nat.mul_comm X, ← Nat.two_pow_add_eq_or_of_lt hc]
def zaI (P : Nat) : List Int → Nat → List Int
 | [], c => [(c : Int)]
 | d :: l, c => (((d.toNat * P + c) % 4294967296 : Nat) : Int) :: zaI P l ((d.toNat * P + c) / 4294967296)
theorem ze9 {s : Nat} (hs : s < 32) : ∀ (l : List Int) (c : Nat), Dg l → c < 2 ^ s → V (zaI (2 ^ s) l c) = V l * 2 ^ s + c ∧ Dg (zaI (2 ^ s) l c)
 | [], c, _, hc => by
  have hle : 2 ^ s ≤ 2 ^ 31 := Nat.pow_le_pow_right (by omega) (by omega)
  simp only [zaI, zv, zE]
  exact ⟨by omega, Dg.cons (by omega) (by omega) Dg.nil⟩
 | d :: l, c, hg, hc => by
  have hd := hg.head
  have hX : d.toNat < 4294967296 := by omega
  have ih := ze9 hs l _ hg.tail (zdy d.toNat s c hs hX hc)
  simp only [zaI, zv, ih.1]
  refine ⟨?_, Dg.cons (by omega) (by omega) ih.2⟩
  generalize hm : d.toNat * 2 ^ s + c = m
  rw [Nat.add_mul, Nat.mul_assoc]
  generalize V l * 2 ^ s = z
  omega
theorem nn {i : Nat} : 0 ≤ (i : Int) := Int.natCast_nonneg i
theorem zfb (A : List Int) (hA : Dg A) (hl : A.length < 1000000000) {s : Nat} (hs : s < 32) : ∀ (a done pa : List Int) (c : Nat), A = pa ++ a → c < 2 ^ s → Dg done → done.length + a.length < 2000000000 →
  Ev (fun k => zam.l0 k done s c A A.length pa.length) (D (V (done ++ zaI (2 ^ s) a c)))
 | [], done, pa, c, he, hc, hg, hb => by
  have hlen : A.length = pa.length := by rw [he]; simp
  have hle : 2 ^ s ≤ 2 ^ 31 := Nat.pow_le_pow_right (by omega) (by omega)
  refine zf ?_
  simp only [zam.l0]
  (repeat (first | with_reducible refine ep ?_ | with_reducible refine en ?_))
  exact Ev.bind (zcg (hg.app (Dg.cons (by omega) (by omega) Dg.nil)) (by simp at hb ⊢; omega)) (Ev.now _)
 | d :: a, done, pa, c, he, hc, hg, hb => by
  have hlen : A.length = pa.length + 1 + a.length := by rw [he]; simp; omega
  have hd : 0 ≤ d ∧ d < 4294967296 := by rw [he] at hA; exact hA.right.head
  obtain ⟨X, rfl⟩ := Int.eq_ofNat_of_zero_le hd.1
  have hX : X < 4294967296 := by omega
  have h1 : rd A (pa.length : Int) = (X : Int) := by rw [he]; exact z6 rfl
  refine zf ?_
  simp only [zam.l0, h1, zB (n := pa.length) (by omega), zhE X s c hs hX hc, zhD X s c hs hX hc]
  have w32 : wrap64 (32 - (s : Int)) = 32 - (s : Int) := by unfold wrap64; omega
  (repeat (first | with_reducible refine ep ?_ | with_reducible refine en ?_))
  have := zfb A hA hl hs a (done ++ [(((X * 2 ^ s + c) % 4294967296 : Nat) : Int)]) (pa ++ [(X : Int)]) ((X * 2 ^ s + c) / 4294967296) (by rw [he]; simp) (zdy X s c hs hX hc) (hg.app (Dg.cons (by omega) (by omega) Dg.nil)) (by simp at hb ⊢; omega)
  rw [List.length_append, List.length_singleton] at this
  refine zg this ?_
  simp [zaI]
theorem zeV (A : List Int) (hA : Dg A) (hl : A.length < 1000000000) {s : Nat} (hs : s < 32) : ∀ (a done pa : List Int) (c : Nat), A = pa ++ a → c < 2 ^ s → Dg done → done.length + a.length < 2000000000 →
  Ev (fun k => zaa.l0 k A done s c pa.length) (D (V (done ++ zaI (2 ^ s) a c)))
 | [], done, pa, c, he, hc, hg, hb => by
  have hlen : A.length = pa.length := by rw [he]; simp
  have hle : 2 ^ s ≤ 2 ^ 31 := Nat.pow_le_pow_right (by omega) (by omega)
  refine zf ?_
  have e : (c : Int) % 4294967296 = (c : Int) := by omega
  simp only [zaa.l0, e]
  (repeat (first | with_reducible refine ep ?_ | with_reducible refine en ?_))
  exact Ev.bind (zci (hg.app (Dg.cons (by omega) (by omega) Dg.nil)) (by simp at hb ⊢; omega)) (Ev.now _)
 | d :: a, done, pa, c, he, hc, hg, hb => by
  have hlen : A.length = pa.length + 1 + a.length := by rw [he]; simp; omega
  have hd : 0 ≤ d ∧ d < 4294967296 := by rw [he] at hA; exact hA.right.head
  obtain ⟨X, rfl⟩ := Int.eq_ofNat_of_zero_le hd.1
  have hX : X < 4294967296 := by omega
  have h1 : rd A (pa.length : Int) = (X : Int) := by rw [he]; exact z6 rfl
  have e1 : ((X * 2 ^ s + c : Nat) : Int) % 4294967296 = (((X * 2 ^ s + c) % 4294967296 : Nat) : Int) := by omega
  have e2 : ((X * 2 ^ s + c : Nat) : Int) / 4294967296 = (((X * 2 ^ s + c) / 4294967296 : Nat) : Int) := by omega
  refine zf ?_
  simp only [zaa.l0, h1, zB (n := pa.length) (by omega), zhi X s c hs hX hc, e1, e2]
  (repeat (first | with_reducible refine ep ?_ | with_reducible refine en ?_))
  have := zeV A hA hl hs a (done ++ [(((X * 2 ^ s + c) % 4294967296 : Nat) : Int)]) (pa ++ [(X : Int)]) ((X * 2 ^ s + c) / 4294967296) (by rw [he]; simp) (zdy X s c hs hX hc) (hg.app (Dg.cons (by omega) (by omega) Dg.nil)) (by simp at hb ⊢; omega)
  rw [List.length_append, List.length_singleton] at this
  refine zg this ?_
  simp [zaI]
theorem t32 {n : Nat} (h : n < 4611686018427387904) : wrap64 (Int.tdiv (n : Int) 32) = ((n / 32 : Nat) : Int) := by
 rw [Int.tdiv_eq_ediv_of_nonneg (by omega)]; unfold wrap64; omega
theorem m32 (n : Nat) : Int.tmod (n : Int) 32 = ((n % 32 : Nat) : Int) := by
 rw [Int.tmod_eq_emod_of_nonneg (by omega)]; omega
theorem zch (n : Nat) : 2 ^ n = 4294967296 ^ (n / 32) * 2 ^ (n % 32) := by
 have h : (4294967296 : Nat) = 2 ^ 32 := by decide
 rw [h, ← Nat.pow_mul, ← Nat.pow_add]; congr 1; omega
theorem zfa {a : List Int} (ha : Dg a) (n : Nat) : V (List.replicate (n / 32) 0 ++ zaI (2 ^ (n % 32)) a 0) = V a * 2 ^ n := by
 have h := (ze9 (s := n % 32) (by omega) a 0 ha (zt _)).1
 rw [zas, zc2, List.length_replicate, h, Nat.zero_add, Nat.add_zero, zch n, Nat.mul_left_comm]
theorem zgF {a : List Int} (ha : Dg a) (la : a.length < 1000000000) (n : Nat) (hn : n < 1000000000) : Ev (fun k => zam.f k a n) (D (V a * 2 ^ n)) := by
 unfold zam.f
 have e1 : wrap64 (wrap64 (((n / 32 : Nat) : Int) + (a.length : Int)) + 1) = ((n / 32 + a.length + 1 : Nat) : Int) := by unfold wrap64; omega
 simp only [t32 (n := n) (by omega), m32, e1]
 clear e1
 by_cases h0 : a = []
 ·subst h0
  (repeat (first | with_reducible refine ep ?_ | with_reducible refine en ?_))
  exact zg (Ev.now _) (by simp [zC])
 ·have : 0 < a.length := List.length_pos_iff.2 h0
  (repeat (first | with_reducible refine ep ?_ | with_reducible refine en ?_))
  have h := zfb a ha la (s := n % 32) (by omega) a (List.replicate (n / 32) 0) [] 0 rfl (zt _) (Dg.zeros _) (by simp; omega)
  rw [zfa ha] at h
  simp only [Int.toNat_natCast]
  simpa using h
theorem zeP {a : List Int} (ha : Dg a) (la : a.length < 1000000000) (n : Nat) (hn : n < 1000000000) : Ev (fun k => zaa.f k a n) (D (V a * 2 ^ n)) := by
 unfold zaa.f
 simp only [t32 (n := n) (by omega), m32]
 by_cases h0 : a = []
 ·subst h0
  (repeat (first | with_reducible refine ep ?_ | with_reducible refine en ?_))
  exact zg (Ev.now _) (by simp [zC])
 ·have : 0 < a.length := List.length_pos_iff.2 h0
  (repeat (first | with_reducible refine ep ?_ | with_reducible refine en ?_))
  have h := zeV a ha la (s := n % 32) (by omega) a (List.replicate (n / 32) 0) [] 0 rfl (zt _) (Dg.zeros _) (by simp; omega)
  rw [zfa ha] at h
  simp only [Int.toNat_natCast]
  simpa using h
theorem pw' {s : Nat} (h : s ≤ 32) : 2 ^ (32 - s) * 2 ^ s = 4294967296 := by rw [Nat.mul_comm]; exact pw h
theorem zbZ {l : List Int} (h : Dg l) (q : Nat) : V (l.drop q) = V l / 4294967296 ^ q := by
 by_cases hq : q ≤ l.length
 ·have e : V l = V (l.take q) + 4294967296 ^ q * V (l.drop q) := by
   conv => lhs; rw [← List.take_append_drop q l, zas, List.length_take, Nat.min_eq_left hq]
  have hlt : V (l.take q) < 4294967296 ^ q := by
   have := zaJ (h.take q); rwa [List.length_take, Nat.min_eq_left hq] at this
  rw [e, Nat.add_mul_div_left _ _ (Nat.pow_pos (by omega)), Nat.div_eq_of_lt hlt, Nat.zero_add]
 ·rw [List.drop_eq_nil_of_le (by omega), zE, Nat.div_eq_of_lt]
  exact Nat.lt_of_lt_of_le (zaJ h) (Nat.pow_le_pow_right (by omega) (by omega))
theorem zdi {m : Nat} (h : m < 4294967296) : (m : Int) < 4294967296 := by omega
theorem zfU (Y s : Nat) (hs : s < 32) (hY : Y < 4294967296) : (shl .u64 (IntKind.u64.wrap (Y : Int)) (wrap64 (32 - (s : Int)))) % 4294967296 = ((2 ^ (32 - s) * (Y % 2 ^ s) : Nat) : Int) := by
 rw [zbX _ hY, zdz (by omega), zdv _ _ (by omega) hY]
 have h := (zbQ (X := Y) (P := 2 ^ (32 - s)) (Q := 2 ^ s) (c := 0) (zt _) (zt _)).2
 rw [pw' (by omega), Nat.add_zero, Nat.add_zero] at h
 rw [← h]; omega
theorem zcv (X Y s : Nat) (hs : s < 32) (hX : X < 4294967296) : X / 2 ^ s + 2 ^ (32 - s) * (Y % 2 ^ s) < 4294967296 := by
 have h1 := zb6 (s := s) (by omega) hX
 have h2 : Y % 2 ^ s + 1 ≤ 2 ^ s := Nat.mod_lt _ (zt _)
 have h3 := Nat.mul_le_mul_left (2 ^ (32 - s)) h2
 rw [pw' (by omega), Nat.mul_add] at h3
 omega
theorem zfT (X Y s : Nat) (hs : s < 32) (hX : X < 4294967296) (hY : Y < 4294967296) : Go.bits .or .u32 ((X / 2 ^ s : Nat) : Int) ((shl .u64 (IntKind.u64.wrap (Y : Int)) (wrap64 (32 - (s : Int)))) % 4294967296) = ((X / 2 ^ s + 2 ^ (32 - s) * (Y % 2 ^ s) : Nat) : Int) := by
 have hl := zcv X Y s hs hX
 rw [zfU Y s hs hY, u32_or_nat _ _ (Nat.lt_of_le_of_lt (Nat.le_add_right _ _) hl) (Nat.lt_of_le_of_lt (Nat.le_add_left _ _) hl), Nat.or_comm, ← Nat.two_pow_add_eq_or_of_lt (zb6 (by omega) hX), Nat.add_comm]
theorem zg0 (X Y s : Nat) (hs : s < 32) (hX : X < 4294967296) (hY : Y < 4294967296) : (Go.bits .or .u64 (shr .u64 (IntKind.u64.wrap (X : Int)) (s : Int)) (shl .u64 (IntKind.u64.wrap (Y : Int)) (wrap64 (32 - (s : Int))))) % 4294967296 = ((X / 2 ^ s + 2 ^ (32 - s) * (Y % 2 ^ s) : Nat) : Int) := by
 have hl := zb6 (s := s) (by omega) hX
 have hle : 2 ^ (32 - s) ≤ 2 ^ 32 := Nat.pow_le_pow_right (by omega) (by omega)
 have h2 : Y * 2 ^ (32 - s) ≤ 4294967295 * 2 ^ 32 := Nat.mul_le_mul (by omega) hle
 have hX2 : X / 2 ^ s ≤ X := Nat.div_le_self _ _
 rw [zbX _ hX, zbX _ hY, zdz (by omega), zdv _ _ (by omega) hY, zbR _ _ (by simp [IntKind.bits]; omega), u64_or_nat _ _ (by omega) (by omega), Nat.or_comm, Nat.mul_comm Y, ← Nat.two_pow_add_eq_or_of_lt hl, Nat.mul_comm _ Y]
 have h := (zbQ (X := Y) (P := 2 ^ (32 - s)) (Q := 2 ^ s) (c := X / 2 ^ s) (zt _) hl).2
 rw [pw' (by omega)] at h
 rw [Nat.add_comm (X / 2 ^ s), ← h]; omega
def zU (s : Nat) : List Int → List Int
 | [] => []
 | d :: l => ((d.toNat / 2 ^ s + 2 ^ (32 - s) * ((l.headD 0).toNat % 2 ^ s) : Nat) : Int) :: zU s l
theorem zfr {l : List Int} {s : Nat} (hs : s ≤ 32) : V l % 2 ^ s = (l.headD 0).toNat % 2 ^ s := by
 cases l with
 | nil => simp
 | cons d l =>
  have h := pw (s := s) hs
  simp only [zv, List.headD_cons]
  rw [← h, Nat.mul_assoc, Nat.add_mul_mod_self_left]
theorem zeb {s : Nat} (hs : s < 32) : ∀ (l : List Int), Dg l → V (zU s l) = V l / 2 ^ s ∧ Dg (zU s l)
 | [], _ => by simp [zU, Dg.nil]
 | d :: l, hg => by
  have hd := hg.head
  have ih := zeb hs l hg.tail
  have hl := zcv d.toNat (l.headD 0).toNat s hs (by omega)
  simp only [zU, zv, ih.1]
  refine ⟨?_, Dg.cons nn (zdi hl) ih.2⟩
  rw [← zfr (l := l) (by omega), Int.toNat_natCast]
  have h := pw (s := s) (by omega)
  have h' := pw' (s := s) (by omega)
  have e1 : (d.toNat + 4294967296 * V l) / 2 ^ s = d.toNat / 2 ^ s + 2 ^ (32 - s) * V l := by
   rw [← h, Nat.mul_assoc, Nat.add_mul_div_left _ _ (zt _)]
  have e2 : 2 ^ (32 - s) * V l = 2 ^ (32 - s) * (V l % 2 ^ s) + 4294967296 * (V l / 2 ^ s) := by
   rw [← h', Nat.mul_assoc, ← Nat.mul_add, Nat.mod_add_div]
  rw [e1, e2, Nat.add_assoc]
theorem zec {a : List Int} (ha : Dg a) (n : Nat) : V (zU (n % 32) (a.drop (n / 32))) = V a / 2 ^ n := by
 rw [(zeb (by omega) _ (ha.drop _)).1, zbZ ha, Nat.div_div_eq_div_mul, ← zch]
theorem zed (A : List Int) (hA : Dg A) (hl : A.length < 1000000000) {s : Nat} (hs : s < 32) : ∀ (a done pa : List Int), A = pa ++ a → done.length = pa.length → Dg done →
  Ev (fun k => zaf.l0 k A s (done ++ List.replicate a.length 0) A A.length pa.length) (D (V (done ++ zU s a)))
 | [], done, pa, he, hd, hg => by
  have hlen : A.length = pa.length := by rw [he]; simp
  refine zf ?_
  simp only [zaf.l0]
  (repeat (first | with_reducible refine ep ?_ | with_reducible refine en ?_))
  simp only [List.length_nil, List.replicate_zero, zU]
  exact Ev.bind (zcg (l := done ++ []) (by simpa using hg) (by simp; omega)) (Ev.now _)
 | d :: a, done, pa, he, hd, hg => by
  have hlen : A.length = pa.length + 1 + a.length := by rw [he]; simp; omega
  have hdd : 0 ≤ d ∧ d < 4294967296 := by rw [he] at hA; exact hA.right.head
  obtain ⟨X, rfl⟩ := Int.eq_ofNat_of_zero_le hdd.1
  have hX : X < 4294967296 := by omega
  have h1 : rd A (pa.length : Int) = (X : Int) := by rw [he]; exact z6 rfl
  have hg2 : Dg (a) := by rw [he] at hA; exact hA.right.tail
  have hy := hg2.headD
  have ih := zed A hA hl hs a (done ++ [((X / 2 ^ s + 2 ^ (32 - s) * ((a.headD 0).toNat % 2 ^ s) : Nat) : Int)]) (pa ++ [(X : Int)]) (by rw [he]; simp) (by simp [hd])
   (hg.app (Dg.cons nn (zdi (zcv X (a.headD 0).toNat s hs hX)) Dg.nil))
  rw [@List.length_append _ pa, List.length_singleton] at ih
  refine zf ?_
  have hset : (done ++ List.replicate ((X : Int) :: a).length 0).set ((pa.length : Int)).toNat ((X / 2 ^ s : Nat) : Int) = (done ++ [((X / 2 ^ s : Nat) : Int)]) ++ List.replicate a.length 0 := by
   rw [List.length_cons, List.replicate_succ, zbp (by omega)]
  simp only [zaf.l0, h1, zB (n := pa.length) (by omega), zbR (k := .u32) X s (by simp [IntKind.bits]; omega), hset, Option.bind_some]
  have w32 : wrap64 (32 - (s : Int)) = 32 - (s : Int) := by unfold wrap64; omega
  (repeat (first | with_reducible refine ep ?_ | with_reducible refine en ?_))
  by_cases hn : a = []
  ·subst hn
   simp only [List.length_nil, Nat.add_zero] at hlen
   (repeat (first | with_reducible refine ep ?_ | with_reducible refine en ?_))
   refine zg (by simpa [zU] using ih) ?_
   simp [zU]
  ·obtain ⟨y, a', rfl⟩ := List.exists_cons_of_ne_nil hn
   obtain ⟨Y, rfl⟩ := Int.eq_ofNat_of_zero_le hy.1
   simp only [List.headD_cons] at hy ih
   have hlen' := hlen
   simp only [List.length_cons] at hlen'
   have h2 : rd A ((pa.length + 1 : Nat) : Int) = (Y : Int) := by rw [he, show pa ++ (X : Int) :: (Y : Int) :: a' = (pa ++ [(X : Int)]) ++ (Y : Int) :: a' by simp]; exact z6 (by simp)
   have h3 : rd (done ++ [((X / 2 ^ s : Nat) : Int)] ++ List.replicate ((Y : Int) :: a').length 0) (pa.length : Int) = ((X / 2 ^ s : Nat) : Int) := by rw [List.append_assoc, List.singleton_append]; exact z6 (by omega)
   have hset2 : (done ++ [((X / 2 ^ s : Nat) : Int)] ++ List.replicate ((Y : Int) :: a').length 0).set ((pa.length : Int)).toNat ((X / 2 ^ s + 2 ^ (32 - s) * (Y % 2 ^ s) : Nat) : Int) = done ++ [((X / 2 ^ s + 2 ^ (32 - s) * (Y % 2 ^ s) : Nat) : Int)] ++ List.replicate ((Y : Int) :: a').length 0 := by
    rw [List.append_assoc, List.singleton_append, zbp (by omega)]
   simp only [h2, h3, zfT X Y s hs hX (by omega), hset2]
   (repeat (first | with_reducible refine ep ?_ | with_reducible refine en ?_))
   rw [Int.toNat_natCast] at ih
   refine zg ih ?_
   simp [zU]
theorem zgC {a : List Int} (ha : Dg a) (la : a.length < 1000000000) (n : Nat) (hn : n < 100000000000) : Ev (fun k => zaf.f k a n) (D (V a / 2 ^ n)) := by
 unfold zaf.f
 simp only [t32 (n := n) (by omega), m32]
 by_cases h : n / 32 ≥ a.length
 ·(repeat (first | with_reducible refine ep ?_ | with_reducible refine en ?_))
  have : V a / 2 ^ n = 0 := by
   rw [zch, ← Nat.div_div_eq_div_mul, ← zbZ ha, List.drop_eq_nil_of_le h]; simp
  rw [this, zC]; exact Ev.now _
 ·(repeat (first | with_reducible refine ep ?_ | with_reducible refine en ?_))
  have h := zed (a.drop (n / 32)) (ha.drop _) (by simp; omega) (s := n % 32) (by omega) (a.drop (n / 32)) [] [] rfl rfl Dg.nil
  simp only [List.nil_append, zec ha] at h
  simp only [Int.toNat_natCast]
  simpa using h
theorem zg2 {l : List Int} (h : Dg l) (hl : l.length < 1000000000) (i : Nat) (hi : i < 4611686018427387904) : zbz.f l i = some ((V l / 2 ^ i % 2 : Nat) : Int) := by
 unfold zbz.f
 simp only [t32 hi, m32]
 rw [if_neg (by omega)]
 by_cases hq : i / 32 ≥ l.length
 ·rw [if_pos (by omega)]
  have : V l / 2 ^ i = 0 := by
   rw [zch, ← Nat.div_div_eq_div_mul, ← zbZ h, List.drop_eq_nil_of_le hq]; simp
  rw [this]; rfl
 ·rw [if_neg (by omega), if_pos nn, if_pos (by omega), if_pos nn]
  rw [rdn]
  have hx := h.getD (i / 32)
  obtain ⟨X, hX⟩ := Int.eq_ofNat_of_zero_le hx.1
  have hX2 : X < 4294967296 := by omega
  rw [hX, zbR _ _ (by simp [IntKind.bits]; omega)]
  have hle : X / 2 ^ (i % 32) ≤ X := Nat.div_le_self _ _
  have e := u32_and_nat (X / 2 ^ (i % 32)) 1 (by omega) (by omega)
  rw [Nat.and_one_is_mod] at e
  rw [show (1 : Int) = ((1 : Nat) : Int) from rfl, e]
  congr 2
  rw [zch i, ← Nat.div_div_eq_div_mul, ← zbZ h]
  have hd : l.drop (i / 32) = (X : Int) :: l.drop (i / 32 + 1) := by
   rw [List.drop_eq_getElem_cons (by omega)]
   congr 1
   rw [← hX, List.getD_eq_getElem?_getD, List.getElem?_eq_getElem (by omega)]; rfl
  rw [hd, zv, Int.toNat_natCast, ← pw (s := i % 32) (by omega), Nat.mul_assoc, Nat.add_mul_div_left _ _ (zt _)]
  have e3 : 2 ^ (32 - i % 32) = 2 * 2 ^ (31 - i % 32) := by
   rw [show 32 - i % 32 = (31 - i % 32) + 1 by omega, Nat.pow_succ, Nat.mul_comm]
  rw [e3, Nat.mul_assoc, Nat.add_mul_mod_self_left]
theorem zaW {l : List Int} (h : Dg l) : bl (V l) ≤ 32 * l.length := by
 apply zaC
 have := zaJ h
 rwa [show (4294967296 : Nat) = 2 ^ 32 from rfl, ← Nat.pow_mul] at this
theorem zcY {n k : Nat} (h : n < 4294967296 ^ k) : (D n).length ≤ k := by
 rcases Nat.lt_or_ge k (D n).length with h1 | h1
 ·have h2 := zcX (zu n) (by intro e; rw [e] at h1; simp at h1)
  rw [V_D] at h2
  have h3 : 4294967296 ^ k ≤ 4294967296 ^ ((D n).length - 1) := Nat.pow_le_pow_right (by omega) (by omega)
  omega
 ·exact h1
theorem zeK (A : List Int) (hA : Dg A) (hl : A.length < 1000000000) (b : Bool) {s : Nat} (hs : s < 32) : ∀ (a done pa : List Int), A = pa ++ a → done.length + a.length < 1000000000 → Dg done →
  Ev (fun k => z8.l0 k A b done s pa.length) (D (V (done ++ zU s a)), b)
 | [], done, pa, he, hd, hg => by
  have hlen : A.length = pa.length := by rw [he]; simp
  refine zf ?_
  simp only [z8.l0]
  (repeat (first | with_reducible refine ep ?_ | with_reducible refine en ?_))
  simp only [zU, List.append_nil]
  exact Ev.bind (zci hg (by simp at hd; omega)) (Ev.now _)
 | d :: a, done, pa, he, hd, hg => by
  have hlen : A.length = pa.length + 1 + a.length := by rw [he]; simp; omega
  have hdd : 0 ≤ d ∧ d < 4294967296 := by rw [he] at hA; exact hA.right.head
  obtain ⟨X, rfl⟩ := Int.eq_ofNat_of_zero_le hdd.1
  have hX : X < 4294967296 := by omega
  have h1 : rd A (pa.length : Int) = (X : Int) := by rw [he]; exact z6 rfl
  have hg2 : Dg (a) := by rw [he] at hA; exact hA.right.tail
  have hy := hg2.headD
  have ih := zeK A hA hl b hs a (done ++ [((X / 2 ^ s + 2 ^ (32 - s) * ((a.headD 0).toNat % 2 ^ s) : Nat) : Int)]) (pa ++ [(X : Int)]) (by rw [he]; simp) (by simp at hd ⊢; omega)
   (hg.app (Dg.cons nn (zdi (zcv X (a.headD 0).toNat s hs hX)) Dg.nil))
  rw [@List.length_append _ pa, List.length_singleton] at ih
  have hXs : X / 2 ^ s ≤ X := Nat.div_le_self _ _
  have e0 : ((X / 2 ^ s : Nat) : Int) % 4294967296 = ((X / 2 ^ s : Nat) : Int) := by
   generalize X / 2 ^ s = z at *; omega
  refine zf ?_
  simp only [z8.l0, h1, zB (n := pa.length) (by omega)]
  (repeat (first | with_reducible refine ep ?_ | with_reducible refine en ?_))
  by_cases hn : a = []
  ·subst hn
   simp only [List.length_nil, Nat.add_zero] at hlen
   (repeat (first | with_reducible refine ep ?_ | with_reducible refine en ?_))
   rw [zbX _ hX, zbR _ _ (by simp [IntKind.bits]; omega), e0]
   refine zg (by simpa [zU] using ih) ?_
   simp [zU]
  ·obtain ⟨y, a', rfl⟩ := List.exists_cons_of_ne_nil hn
   obtain ⟨Y, rfl⟩ := Int.eq_ofNat_of_zero_le hy.1
   simp only [List.headD_cons] at hy ih
   have hlen' := hlen
   have w32 : wrap64 (32 - (s : Int)) = 32 - (s : Int) := by unfold wrap64; omega
   have hd' := hd
   simp only [List.length_cons] at hd'
   simp only [List.length_cons] at hlen'
   have h2 : rd A ((pa.length + 1 : Nat) : Int) = (Y : Int) := by rw [he, show pa ++ (X : Int) :: (Y : Int) :: a' = (pa ++ [(X : Int)]) ++ (Y : Int) :: a' by simp]; exact z6 (by simp)
   simp only [h2, zg0 X Y s hs hX (by omega)]
   (repeat (first | with_reducible refine ep ?_ | with_reducible refine en ?_))
   rw [Int.toNat_natCast] at ih
   refine zg ih ?_
   simp [zU]
theorem zc8 {m n : Nat} : (zA m n ≥ 0) ↔ n ≤ m := by
 unfold zA; split
 ·constructor <;> intro h <;> omega
 ·split <;> constructor <;> intro h <;> omega
theorem ze6 (a b : Nat) : Int.tmod (a : Int) (b : Int) = ((a % b : Nat) : Int) := rfl
theorem zd5 {m n : Nat} : (zA m n < 0) ↔ m < n := by
 have := zc8 (m := m) (n := n)
 constructor <;> intro h <;> omega
theorem zbO {l : List Int} (h : Nm l) (hb : l.length ≤ 4096) : Ev (fun k => zP.f k l) ((bl (V l) : Nat) : Int) := by
 unfold zP.f
 refine zh (zaQ h.dg (by omega)) ?_
 rw [zae.2 ⟨hb, h⟩]
 (repeat (first | with_reducible refine ep ?_ | with_reducible refine en ?_))
 by_cases c : l.length = 0
 ·have : l = [] := List.eq_nil_of_length_eq_zero c
  subst this
  (repeat (first | with_reducible refine ep ?_ | with_reducible refine en ?_))
  exact zg (Ev.now _) rfl
 ·have e : wrap64 ((l.length : Int) - 1) = ((l.length - 1 : Nat) : Int) := by unfold wrap64; omega
  rw [e]
  clear e
  have hd := h.dg.getD (l.length - 1)
  have hne : l ≠ [] := fun e => c (by rw [e]; rfl)
  rw [rdn]
  (repeat (first | with_reducible refine ep ?_ | with_reducible refine en ?_))
  refine Ev.bind (zgk hd) (zg (Ev.now _) ?_)
  rw [zdS h hne]
  generalize l.getD (l.length - 1) 0 = x at hd
  have hbn : bl x.toNat ≤ 32 := zaC (by omega)
  unfold wrap64
  omega
def zO (n b : Nat) : Prop := ∃ m, n = 2 ^ b * (2 * m + 1)
theorem zO.ne {n b : Nat} (h : zO n b) : n ≠ 0 := by
 obtain ⟨m, h⟩ := h
 have := Nat.mul_pos (zt b) (show 0 < 2 * m + 1 by omega)
 omega
theorem zO.le {n b : Nat} (h : zO n b) : 2 ^ b ≤ n := by
 obtain ⟨m, h⟩ := h
 rw [h]; exact Nat.le_mul_of_pos_right _ (by omega)
theorem zO.mod {n b k : Nat} (h : zO n b) : n % 2 ^ k = 0 ↔ k ≤ b := by
 obtain ⟨m, h⟩ := h
 constructor
 ·intro hk
  rcases Nat.lt_or_ge b k with h1 | h1
  ·exfalso
   obtain ⟨d, rfl⟩ := Nat.exists_eq_add_of_lt h1
   have hd : 2 ^ (b + d + 1) ∣ 2 ^ b * (2 * m + 1) := by rw [← h]; exact Nat.dvd_of_mod_eq_zero hk
   rw [Nat.add_assoc, Nat.pow_add] at hd
   have h2 := Nat.dvd_of_mul_dvd_mul_left (zt b) hd
   rw [Nat.pow_succ] at h2
   have h3 : 2 ∣ 2 * m + 1 := Nat.dvd_trans (Nat.dvd_mul_left 2 _) h2
   omega
  ·exact h1
 ·intro hk
  obtain ⟨d, rfl⟩ := Nat.exists_eq_add_of_le hk
  rw [h, Nat.pow_add, Nat.mul_assoc]
  exact Nat.mul_mod_right _ _
theorem zO.unique {n b c : Nat} (h : zO n b) (k : zO n c) : b = c := by
 have h1 := (h.mod (k := b)).2 (Nat.le_refl _)
 have h2 := (k.mod (k := c)).2 (Nat.le_refl _)
 have h3 := k.mod.1 h1
 have h4 := h.mod.1 h2
 omega
theorem zgh {n b : Nat} (h : n % 2 ^ b = 0) (k : n / 2 ^ b % 2 = 1) : zO n b :=
 ⟨n / 2 ^ b / 2, by
  have h1 := Nat.div_add_mod n (2 ^ b)
  rw [h, Nat.add_zero] at h1
  have h2 : 2 * (n / 2 ^ b / 2) + 1 = n / 2 ^ b := by omega
  rw [h2, h1]⟩
theorem zei {n b k : Nat} (h : zO n b) : zO (n * 2 ^ k) (b + k) := by
 obtain ⟨m, h⟩ := h
 exact ⟨m, by rw [h, Nat.pow_add, Nat.mul_assoc, Nat.mul_comm (2 * m + 1), ← Nat.mul_assoc]⟩
theorem zgi {x : Nat} (h : x ≠ 0) (hx : x < 4294967296) : zO x (Lib.ctz 32 x) ∧ Lib.ctz 32 x < 32 := by
 obtain ⟨m, h1, h2⟩ := Lib.ctzFrom_spec 32 x (by omega) hx
 unfold Lib.ctz
 rw [if_neg h]
 exact ⟨⟨m, h1⟩, h2⟩
theorem zgg {x r b : Nat} (h : zO x b) (hb : b < 32) : zO (x + 4294967296 * r) b := by
 obtain ⟨m, h⟩ := h
 obtain ⟨d, hd⟩ : ∃ d, 32 = b + (d + 1) := ⟨31 - b, by omega⟩
 have e : 4294967296 = 2 ^ b * (2 ^ d * 2) := by
  rw [← Nat.pow_succ, ← Nat.pow_add, Nat.succ_eq_add_one, ← hd]
 have e2 : 2 ^ b * (2 ^ d * 2) * r = 2 ^ b * (2 * (2 ^ d * r)) := by
  rw [Nat.mul_assoc, Nat.mul_comm (2 ^ d) 2, Nat.mul_assoc]
 refine ⟨m + 2 ^ d * r, ?_⟩
 rw [h, e, e2, ← Nat.mul_add]
 congr 1
 omega
def lw (n : Nat) : Nat := if n = 0 then 0 else Lib.ctzFrom n n
theorem za4 {n : Nat} (h : n ≠ 0) : zO n (lw n) := by
 obtain ⟨m, h1, _⟩ := Lib.ctzFrom_spec n n (by omega) Nat.lt_two_pow_self
 unfold lw
 rw [if_neg h]
 exact ⟨m, h1⟩
theorem zcF {n b : Nat} (h : zO n b) : lw n = b := (za4 h.ne).unique h
theorem zhz {x : Int} (h : 0 ≤ x ∧ x < 4294967296) : z7.f x = some ((Lib.ctz 32 x.toNat : Nat) : Int) := by
 unfold z7.f
 rw [if_pos h]
theorem zhF {i b : Nat} (hi : i < 1000000) (hb : b < 32) : wrap64 (wrap64 (32 * (i : Int)) + (b : Int)) = ((b + 32 * i : Nat) : Int) := by unfold wrap64; omega
theorem zew (A : List Int) (hA : Dg A) (hl : A.length < 1000000) : ∀ (a pa : List Int), A = pa ++ a → V pa = 0 → Ev (fun k => zQ.l0 k A A.length pa.length) ((lw (V A) : Nat) : Int)
 | [], pa, he, hv => by
  have hlen : A.length = pa.length := by rw [he]; simp
  refine zf ?_
  simp only [zQ.l0]
  (repeat (first | with_reducible refine ep ?_ | with_reducible refine en ?_))
  refine zg (Ev.now _) ?_
  have : V A = 0 := by rw [he, List.append_nil, hv]
  rw [this]; rfl
 | d :: a, pa, he, hv => by
  have hlen : A.length = pa.length + 1 + a.length := by rw [he]; simp; omega
  have hdd : 0 ≤ d ∧ d < 4294967296 := by rw [he] at hA; exact hA.right.head
  have h1 : rd A (pa.length : Int) = d := by rw [he]; exact z6 rfl
  refine zf ?_
  simp only [zQ.l0, h1, zB (n := pa.length) (by omega)]
  (repeat (first | with_reducible refine ep ?_ | with_reducible refine en ?_))
  by_cases h0 : d = 0
  ·refine ze (fun h => h h0) ?_
   have := zew A hA hl a (pa ++ [0]) (by rw [he, h0]; simp) (by rw [zc0, hv])
   rwa [@List.length_append _ pa, List.length_singleton] at this
  ·refine zd h0 ?_
   refine zh (zhz hdd) ?_
   (repeat (first | with_reducible refine ep ?_ | with_reducible refine en ?_))
   refine zg (Ev.now _) ?_
   have hz := zgi (x := d.toNat) (by omega) (by omega)
   have e : V A = (d.toNat + 4294967296 * V a) * 2 ^ (32 * pa.length) := by
    rw [he, zas, hv, zv, Nat.zero_add, Nat.mul_comm, Nat.pow_mul]
   rw [e, zcF (zei (zgg hz.1 hz.2)), zhF (by omega) hz.2]
theorem zes {a : List Int} (ha : Nm a) (la : a.length ≤ 4096) : Ev (fun k => zQ.f k a) ((lw (V a) : Nat) : Int) := by
 unfold zQ.f
 refine zh (zaQ ha.dg (by omega)) ?_
 rw [zae.2 ⟨la, ha⟩]
 (repeat (first | with_reducible refine ep ?_ | with_reducible refine en ?_))
 exact zew a ha.dg (by omega) a [] rfl rfl
theorem zdF {l : List Int} (h : Dg l) (q : Nat) : V l / 4294967296 ^ q % 4294967296 = (l.getD q 0).toNat := by
 have h1 := zbt (l.drop q)
 rw [zb7, zbZ h] at h1
 have h2 := h.getD q
 rw [h1, Nat.add_mul_mod_self_left, Nat.mod_eq_of_lt (by omega)]
theorem zgx {n i : Nat} (h : n % 2 ^ i = 0) (k : n / 2 ^ i % 2 = 0) : n % 2 ^ (i + 1) = 0 := by
 rw [Nat.pow_succ, Nat.mod_mul, h, k, Nat.mul_zero]
theorem zgw {n q : Nat} (h : n % 2 ^ (32 * q) = 0) (k : n / 4294967296 ^ q % 4294967296 = 0) : n % 2 ^ (32 * q + 32) = 0 := by
 have e : 2 ^ (32 * q + 32) = 2 ^ (32 * q) * 4294967296 := by rw [Nat.pow_add]
 have e2 : 4294967296 ^ q = 2 ^ (32 * q) := by rw [Nat.pow_mul]
 rw [e, Nat.mod_mul, h, ← e2, k, Nat.mul_zero]
theorem zhb {l : List Int} (h : Dg l) {i : Nat} (hi : i = 32 * l.length) (hm : V l % 2 ^ i = 0) : V l = 0 := by
 have hv := zaJ h
 have e2 : 4294967296 ^ l.length = 2 ^ (32 * l.length) := by rw [Nat.pow_mul]
 rw [e2, ← hi] at hv
 rwa [Nat.mod_eq_of_lt hv] at hm
theorem zfV {i m : Nat} (h : i < 32 * m) : ((i / 32 : Nat) : Int) < (m : Int) := by omega
theorem zeY {i : Nat} (h : i < 100000000000) : wrap64 ((i : Int) + 1) = ((i + 1 : Nat) : Int) ∧ wrap64 ((i : Int) + 32) = ((i + 32 : Nat) : Int) := by unfold wrap64; omega
theorem zhc {l : List Int} (h : Dg l) (hl : l.length < 1000000000) (n : Nat) : ∀ (i : Nat), 32 * l.length - i ≤ n → i ≤ 32 * l.length → V l % 2 ^ i = 0 → (i % 32 = 0 ∨ l.getD (i / 32) 0 ≠ 0) → Ev (fun k => zX.l0 k l i) ((lw (V l) : Nat) : Int) := by
 induction n using Nat.strongRecOn with
 | _ n ih =>
  intro i hn hi hm hd
  have e32 : wrap64 (32 * (l.length : Int)) = ((32 * l.length : Nat) : Int) := by unfold wrap64; omega
  refine zf ?_
  simp only [zX.l0, e32]
  by_cases hlt : i < 32 * l.length
  ·have hb := zg2 h hl i (by clear hm hd; omega)
   refine zd (by clear hm hd; omega) ?_
   refine zh hb ?_
   have hi9 : i < 100000000000 := by clear hm hd; omega
   have hn1 : 32 * l.length - (i + 1) < n := by clear hm hd; omega
   have hn32 : 32 * l.length - (i + 32) < n := by clear hm hd; omega
   have hi1 : i + 1 ≤ 32 * l.length := hlt
   have hi32 : i % 32 = 0 → i + 32 ≤ 32 * l.length := by clear hm hd; omega
   have hne : i ≠ 32 * l.length := by clear hm hd; omega
   have et : wrap64 (Int.tdiv (i : Int) 32) = ((i / 32 : Nat) : Int) := t32 (by clear hm hd; omega)
   have hdv := zfV hlt
   simp only [et, rdn]
   rw [(zeY hi9).1, (zeY hi9).2]
   clear et e32
   rcases Nat.mod_two_eq_zero_or_one (V l / 2 ^ i) with hz | hz
   ·rw [hz]
    refine zd rfl (zd nn (zd hdv ?_))
    by_cases h0 : l.getD (i / 32) 0 = 0
    ·have hi0 : i % 32 = 0 := hd.resolve_right (fun h => h h0)
     have hi33 := hi32 hi0
     obtain ⟨q, hq0⟩ : ∃ q, i = 32 * q := ⟨i / 32, by clear hm hd hz; omega⟩
     subst hq0
     have hq : 32 * q / 32 = q := by clear hm hd hz; omega
     rw [hq] at h0
     rw [hq]
     refine zd h0 ?_
     refine ih _ hn32 (32 * q + 32) (Nat.le_refl _) hi33 (zgw hm ?_) (.inl ?_)
     ·rw [zdF h, h0]; rfl
     ·clear hm hd hz; omega
    ·refine ze h0 ?_
     refine ih _ hn1 (i + 1) (Nat.le_refl _) hi1 (zgx hm hz) ?_
     clear hm hd hz
     rcases Nat.eq_zero_or_pos ((i + 1) % 32) with h1 | h1
     ·exact .inl h1
     ·have : (i + 1) / 32 = i / 32 := by omega
      rw [this]; exact .inr h0
   ·rw [hz]
    refine ze (by decide) ?_
    refine ze (fun e => hne (Int.ofNat.inj e)) ?_
    refine zg (Ev.now _) ?_
    rw [zcF (zgh hm hz)]
  ·have hi2 : i = 32 * l.length := by clear hm hd; omega
   refine ze (by clear hm hd; omega) ?_
   refine zd (by rw [hi2]) ?_
   refine zg (Ev.now _) ?_
   rw [zhb h hi2 hm]; rfl
theorem zeM {l : List Int} (h : Dg l) (hl : l.length < 1000000000) : Ev (fun k => zX.f k l) ((lw (V l) : Nat) : Int) := by
 unfold zX.f
 exact zhc h hl _ 0 (Nat.le_refl _) (by omega) (by rw [Nat.pow_zero, Nat.mod_one]) (.inl rfl)
theorem zen {n k : Nat} (h : n ≠ 0) : k > lw n ↔ n % 2 ^ k ≠ 0 := by
 have := (za4 h).mod (k := k)
 constructor
 ·intro h1 h2; have := this.1 h2; omega
 ·intro h1; rcases Nat.lt_or_ge (lw n) k with h2 | h2
  ·exact h2
  ·exact absurd (this.2 h2) h1
theorem zg5 {a : List Int} (ha : Nm a) (la : a.length < 100000000) (n : Nat) (hn : n < 1000000000) : Ev (fun k => z8.f k a n) (D (V a / 2 ^ n), decide (V a % 2 ^ n ≠ 0)) := by
 unfold z8.f
 have hlt := zax (V a)
 by_cases h : n ≥ bl (V a)
 ·have hp : V a < 2 ^ n := Nat.lt_of_lt_of_le hlt (Nat.pow_le_pow_right (by omega) h)
  refine Ev.bind (zdr ha (by omega)) ?_
  (repeat (first | with_reducible refine ep ?_ | with_reducible refine en ?_))
  refine zg (Ev.now _) ?_
  rw [Nat.div_eq_of_lt hp, zC, Nat.mod_eq_of_lt hp]
  congr 1
  refine decide_eq_decide.2 ?_
  have := zb0 ha
  have hl : a.length = 0 ↔ a = [] := List.length_eq_zero_iff
  constructor
  ·intro h1 h2; have := hl.2 (this.1 h2); omega
  ·intro h1
   rcases Nat.eq_zero_or_pos a.length with h3 | h3
   ·exact absurd (this.2 (hl.1 h3)) h1
   ·omega
 ·have h0 : V a ≠ 0 := by
   intro h0; rw [h0, zcs] at h; omega
  refine Ev.bind (zdr ha (by omega)) ?_
  (repeat (first | with_reducible refine ep ?_ | with_reducible refine en ?_))
  refine Ev.bind (zeM ha.dg (by omega)) ?_
  (repeat (first | with_reducible refine ep ?_ | with_reducible refine en ?_))
  have hd : decide ((n : Int) > ((lw (V a) : Nat) : Int)) = decide (V a % 2 ^ n ≠ 0) := decide_eq_decide.2 (by rw [← zen h0]; omega)
  rw [hd]
  simp only [t32 (n := n) (by omega), m32]
  have hbl := zaW ha.dg
  have hq : n / 32 ≤ a.length := by omega
  have h1 := zeK a ha.dg (by omega) (decide (V a % 2 ^ n ≠ 0)) (s := n % 32) (by omega) (a.drop (n / 32)) [] (a.take (n / 32)) (by simp) (by simp; omega) Dg.nil
  rw [List.length_take, Nat.min_eq_left hq, List.nil_append, zec ha.dg] at h1
  exact h1
def za7 (v : Nat) (n : Int) : List Int × Bool × Int :=
 if v = 0 then ([], false, 0) else if n < -131072 then ([], true, 0) else if n < 0 then (D (v / 2 ^ (-n).toNat), decide (v % 2 ^ (-n).toNat ≠ 0), 0) else if n > 131072 - (bl v : Int) then ([], false, 3) else (D (v * 2 ^ n.toNat), false, 0)
theorem zcf {a : List Int} (ha : Nm a) (la : a.length ≤ 4096) (n : Int) : Ev (fun k => zL.f k a n) (za7 (V a) n) := by
 unfold zL.f za7
 refine zh (zaQ ha.dg (by omega)) ?_
 rw [zae.2 ⟨la, ha⟩]
 (repeat (first | with_reducible refine ep ?_ | with_reducible refine en ?_))
 by_cases c : a = []
 ·subst c
  (repeat (first | with_reducible refine ep ?_ | with_reducible refine en ?_))
  exact zg (Ev.now _) (by simp)
 have h0 : V a ≠ 0 := fun h => c ((zb0 ha).1 h)
 have hl : a.length ≠ 0 := fun h => c (List.eq_nil_of_length_eq_zero h)
 have hbl := zaW ha.dg
 rw [if_neg h0]
 (repeat (first | with_reducible refine ep ?_ | with_reducible refine en ?_))
 by_cases h1 : n < -131072
 ·rw [if_pos h1]; exact zd h1 (Ev.now _)
 rw [if_neg h1]
 refine ze h1 ?_
 by_cases h2 : n < 0
 ·rw [if_pos h2]
  have e : wrap64 (-n) = (((-n).toNat : Nat) : Int) := by unfold wrap64; omega
  rw [e]
  clear e
  have hm : (-n).toNat ≤ 131072 := by omega
  generalize (-n).toNat = m at *
  refine zd h2 ?_
  refine Ev.bind (zgC ha.dg (by omega) m (by omega)) ?_
  (repeat (first | with_reducible refine ep ?_ | with_reducible refine en ?_))
  refine Ev.bind (zes ha la) ?_
  (repeat (first | with_reducible refine ep ?_ | with_reducible refine en ?_))
  refine zg (Ev.now _) ?_
  congr 2
  exact decide_eq_decide.2 (by rw [← zen h0]; omega)
 ·rw [if_neg h2]
  have e : wrap64 (131072 - ((bl (V a) : Nat) : Int)) = 131072 - ((bl (V a) : Nat) : Int) := by unfold wrap64; omega
  refine ze h2 ?_
  refine Ev.bind (zbO ha la) ?_
  (repeat (first | with_reducible refine ep ?_ | with_reducible refine en ?_))
  rw [e]
  clear e
  by_cases h3 : n > 131072 - ((bl (V a) : Nat) : Int)
  ·rw [if_pos h3]; exact zd h3 (Ev.now _)
  ·rw [if_neg h3]
   obtain ⟨m, rfl⟩ := Int.eq_ofNat_of_zero_le (show 0 ≤ n by omega)
   refine ze h3 ?_
   refine Ev.bind (zgF ha.dg (by omega) m (by omega)) ?_
   (repeat (first | with_reducible refine ep ?_ | with_reducible refine en ?_))
   refine zg (Ev.now _) ?_
   rw [Int.toNat_natCast]
theorem zak {x k : Nat} (h : bl x ≤ 32 * k) : (D x).length ≤ k := by
 refine zcY ?_
 have e : 4294967296 ^ k = 2 ^ (32 * k) := by rw [Nat.pow_mul]
 rw [e]
 exact Nat.lt_of_lt_of_le (zax x) (Nat.pow_le_pow_right (by omega) h)
theorem zbw (v m : Nat) : bl (v * 2 ^ m) ≤ bl v + m := by
 refine zaC ?_
 rw [Nat.pow_add]
 exact Nat.mul_lt_mul_of_pos_right (zax v) (zt m)
theorem zfF {v : Nat} (h : v ≠ 0) (m : Nat) : bl (v * 2 ^ m) = bl v + m := by
 rw [zbv (n := v * 2 ^ m) (k := m) (Nat.le_mul_of_pos_left _ (by omega)), Nat.mul_div_cancel _ (zt m), Nat.add_comm]
theorem zdV (v m : Nat) : bl (v / 2 ^ m) = bl v - m := by
 rcases Nat.lt_or_ge v (2 ^ m) with h | h
 ·rw [Nat.div_eq_of_lt h, zcs]
  have := zaC h
  omega
 ·rw [zbv h]; omega
theorem zcP {v m : Nat} (h : bl v + m ≤ 131072) : za7 v (m : Int) = (D (v * 2 ^ m), false, 0) := by
 unfold za7
 by_cases hv : v = 0
 ·rw [if_pos hv, hv, Nat.zero_mul, zC]
 ·rw [if_neg hv, if_neg (by omega), if_neg (by omega), if_neg (by omega), Int.toNat_natCast]
theorem zhn {v m : Nat} (h : bl v ≤ 131072) (hm : m ≤ 131072) : za7 v (-(m : Int)) = (D (v / 2 ^ m), decide (v % 2 ^ m ≠ 0), 0) := by
 by_cases hv : v = 0
 ·unfold za7
  rw [if_pos hv, hv, Nat.zero_div, Nat.zero_mod, zC]; rfl
 rcases Nat.eq_zero_or_pos m with h0 | h0
 ·subst h0
  have e := zcP (v := v) (m := 0) (by omega)
  rw [Nat.pow_zero, Nat.mul_one] at e
  rw [Nat.pow_zero, Nat.div_one, Nat.mod_one]
  exact e
 ·unfold za7
  have e : (-(-(m : Int))).toNat = m := by omega
  rw [if_neg hv, if_neg (by omega), if_pos (by omega), e]
theorem zgm {a b L M : Nat} (ha : (D a).length ≤ L) (hb : (D b).length ≤ M) : (D (a * b)).length ≤ L + M := by
 refine zcY ?_
 rw [Nat.pow_add]
 exact Nat.mul_lt_mul'' (Nat.lt_of_lt_of_le (zbM a) (Nat.pow_le_pow_right (by omega) ha)) (Nat.lt_of_lt_of_le (zbM b) (Nat.pow_le_pow_right (by omega) hb))
theorem zhu {q x Q X N : Nat} (hq : q < 4294967296 ^ Q) (hx : x < 4294967296 ^ X) (h1 : Q < N) (h2 : X < N) : q + x < 4294967296 ^ N := by
 obtain ⟨m, rfl⟩ := Nat.exists_eq_add_of_lt (show 0 < N by omega)
 have a : 4294967296 ^ Q ≤ 4294967296 ^ m := Nat.pow_le_pow_right (by omega) (by omega)
 have b : 4294967296 ^ X ≤ 4294967296 ^ m := Nat.pow_le_pow_right (by omega) (by omega)
 rw [Nat.zero_add, Nat.pow_succ]
 generalize 4294967296 ^ m = p at *
 omega
def sv (s : Bool) (n : Nat) : Int := if s = true then -(n : Int) else n
theorem zaR (s : Bool) (n : Nat) : (sv s n).natAbs = n := by unfold sv; split <;> simp
theorem za8 {s : Bool} {n : Nat} : sv s n = 0 ↔ n = 0 := by unfold sv; split <;> omega
theorem ze3 {s : Bool} {n : Nat} (h : n ≠ 0) : decide (sv s n < 0) = s := by
 unfold sv
 cases s
 ·exact decide_eq_false (by simp)
 ·exact decide_eq_true (by simp; omega)
theorem zW (s : Bool) : sv s 0 = 0 := by unfold sv; split <;> rfl
def mk (z e : Int) : Bool × List Int × Int := if z = 0 then (false, [], 0) else (decide (z < 0), D (z.natAbs / 2 ^ lw z.natAbs), e + (lw z.natAbs : Nat))
theorem zgp {n : Nat} (h : n ≠ 0) (k : Nat) : lw (n * 2 ^ k) = lw n + k := zcF (zei (za4 h))
theorem zdl (z e : Int) (k : Nat) : mk (z * 2 ^ k) e = mk z (e + k) := by
 unfold mk
 by_cases h : z = 0
 ·subst h; simp
 ·have hp : (0 : Int) < 2 ^ k := Int.pow_pos (by omega)
  have h1 : z * 2 ^ k ≠ 0 := Int.mul_ne_zero h (by omega)
  have hn : z.natAbs ≠ 0 := by omega
  have h2 : (z * 2 ^ k).natAbs = z.natAbs * 2 ^ k := by rw [Int.natAbs_mul, Int.natAbs_pow]; rfl
  have h3 : decide (z * 2 ^ k < 0) = decide (z < 0) := decide_eq_decide.2 (by
   constructor
   ·intro h4
    rcases (show z < 0 ∨ 0 ≤ z by omega) with h5 | h5
    ·exact h5
    ·have := Int.mul_nonneg h5 (Int.le_of_lt hp); omega
   ·intro h4; exact Int.mul_neg_of_neg_of_pos h4 hp)
  rw [if_neg h, if_neg h1, h2, h3, zgp hn]
  have h4 : z.natAbs * 2 ^ k / 2 ^ (lw z.natAbs + k) = z.natAbs / 2 ^ lw z.natAbs := by
   rw [Nat.pow_add]; exact Nat.mul_div_mul_right _ _ (zt k)
  rw [h4]
  congr 2
  omega
structure Dy (s : Bool) (l : List Int) (e : Int) : Prop where
 nm : Nm l
 none : l = [] → s = false ∧ e = 0
 odd : l ≠ [] → V l % 2 = 1
theorem zcb {n : Nat} (h : n % 2 = 1) : lw n = 0 := zcF ⟨n / 2, by rw [Nat.pow_zero, Nat.one_mul]; omega⟩
theorem zcI {s : Bool} {l : List Int} {e : Int} (h : Dy s l e) : mk (sv s (V l)) e = (s, l, e) := by
 unfold mk
 by_cases c : l = []
 ·obtain ⟨h1, h2⟩ := h.none c
  subst c; subst h1; subst h2
  rfl
 ·have h1 := h.odd c
  have h0 : V l ≠ 0 := by omega
  rw [if_neg (fun h => h0 (za8.1 h)), zaR, ze3 h0, zcb h1, Nat.pow_zero, Nat.div_one, h.nm]
  simp
theorem zaB (z e : Int) : Dy (mk z e).1 (mk z e).2.1 (mk z e).2.2 := by
 unfold mk
 by_cases h : z = 0
 ·rw [if_pos h]; exact ⟨zaV, fun _ => ⟨rfl, rfl⟩, fun h => absurd rfl h⟩
 ·rw [if_neg h]
  obtain ⟨m, hm⟩ := za4 (n := z.natAbs) (by omega)
  have h1 : z.natAbs / 2 ^ lw z.natAbs = 2 * m + 1 := by
   have : z.natAbs / 2 ^ lw z.natAbs = 2 ^ lw z.natAbs * (2 * m + 1) / 2 ^ lw z.natAbs := by rw [← hm]
   rw [this, Nat.mul_div_cancel_left _ (zt _)]
  have h2 : D (z.natAbs / 2 ^ lw z.natAbs) ≠ [] := by rw [h1, zbc (by omega)]; simp
  exact ⟨zu _, fun h => absurd h h2, fun _ => by show V (D _) % 2 = 1; rw [V_D, h1]; omega⟩
theorem zce (s : Bool) {n : Nat} (h : n ≠ 0) (e : Int) : mk (sv s n) e = (s, D (n / 2 ^ lw n), e + (lw n : Nat)) := by
 unfold mk
 rw [if_neg (fun h2 => h (za8.1 h2)), zaR, ze3 h]
theorem zcG {n : Nat} (h : n ≠ 0) : lw n < bl n := by
 have h1 := (za4 h).le
 rcases Nat.lt_or_ge (lw n) (bl n) with h2 | h2
 ·exact h2
 ·have h3 := zax n
  have h4 : 2 ^ bl n ≤ 2 ^ lw n := Nat.pow_le_pow_right (by omega) h2
  omega
theorem zS {l : List Int} : (l.length : Int) = 0 ↔ l = [] := by
 constructor
 ·intro h; exact List.eq_nil_of_length_eq_zero (by omega)
 ·intro h; rw [h]; rfl
theorem zcT {e : Int} {b : Nat} (h1 : -1000000000000000 ≤ e) (h2 : e ≤ 1000000000000000) (hb : b < 100000000000) : wrap64 (e + (b : Int)) = e + (b : Int) := by unfold wrap64; omega
theorem zcN (s : Bool) {l : List Int} (hl : Nm l) (ll : l.length < 10000000) {e : Int} (h1 : -1000000000000000 ≤ e) (h2 : e ≤ 1000000000000000) : Ev (fun k => zaq.f k s l e) (mk (sv s (V l)) e) := by
 unfold zaq.f
 by_cases c : l = []
 ·subst c
  (repeat (first | with_reducible refine ep ?_ | with_reducible refine en ?_))
  exact zg (Ev.now _) (by rw [zE, zW]; rfl)
 ·have h0 : V l ≠ 0 := fun h => c ((zb0 hl).1 h)
  have hb := zaW hl.dg
  have hw := zcG h0
  refine ze (fun h => c (zS.1 h)) ?_
  refine Ev.bind (zeM hl.dg (by omega)) ?_
  (repeat (first | with_reducible refine ep ?_ | with_reducible refine en ?_))
  refine Ev.bind (zg5 hl (by omega) (lw (V l)) (by omega)) ?_
  (repeat (first | with_reducible refine ep ?_ | with_reducible refine en ?_))
  refine zg (Ev.now _) ?_
  rw [zce s h0, zcT h1 h2 (by omega)]
def zcc (s : Bool) (n : Nat) (e : Int) : Bool × List Int × Int × Int :=
 if n = 0 then (false, [], 0, 0) else if e > 16777216 - (lw n : Nat) then (false, [], 0, 20) else if e < -16777216 - (lw n : Nat) then (false, [], 0, 20) else ((mk (sv s n) e).1, (mk (sv s n) e).2.1, (mk (sv s n) e).2.2, 0)
theorem zcw (s : Bool) {l : List Int} (hl : Nm l) (ll : l.length ≤ 4096) (e : Int) : Ev (fun k => zF.f k s l e) (zcc s (V l) e) := by
 unfold zF.f zcc
 refine zh (zaQ hl.dg (by omega)) ?_
 rw [zae.2 ⟨ll, hl⟩]
 (repeat (first | with_reducible refine ep ?_ | with_reducible refine en ?_))
 by_cases c : l = []
 ·subst c
  (repeat (first | with_reducible refine ep ?_ | with_reducible refine en ?_))
  exact zg (Ev.now _) (by rw [zE, if_pos rfl])
 ·have h0 : V l ≠ 0 := fun h => c ((zb0 hl).1 h)
  have hb := zaW hl.dg
  have hw := zcG h0
  rw [if_neg h0]
  refine ze (fun h => c (zS.1 h)) ?_
  refine Ev.bind (zes hl ll) ?_
  (repeat (first | with_reducible refine ep ?_ | with_reducible refine en ?_))
  have e1 : wrap64 (16777216 - ((lw (V l) : Nat) : Int)) = 16777216 - ((lw (V l) : Nat) : Int) := by unfold wrap64; omega
  have e2 : wrap64 (-16777216 - ((lw (V l) : Nat) : Int)) = -16777216 - ((lw (V l) : Nat) : Int) := by unfold wrap64; omega
  have e3 : wrap64 (-((lw (V l) : Nat) : Int)) = -((lw (V l) : Nat) : Int) := by unfold wrap64; omega
  rw [e1, e2, e3]
  clear e1 e2 e3
  by_cases h1 : e > 16777216 - ((lw (V l) : Nat) : Int)
  ·rw [if_pos h1]; exact zd h1 (Ev.now _)
  rw [if_neg h1]
  refine ze h1 ?_
  by_cases h2 : e < -16777216 - ((lw (V l) : Nat) : Int)
  ·rw [if_pos h2]; exact zd h2 (Ev.now _)
  rw [if_neg h2]
  have hs := zcf hl ll (-((lw (V l) : Nat) : Int))
  rw [zhn (by omega) (by omega)] at hs
  refine ze h2 ?_
  refine Ev.bind hs ?_
  (repeat (first | with_reducible refine ep ?_ | with_reducible refine en ?_))
  refine zg (Ev.now _) ?_
  rw [zce s h0, zcT (by omega) (by omega) (by omega)]
def al (z e m : Int) : Int := z * 2 ^ (e - m).toNat
theorem zdk {z e m : Int} (h : m ≤ e) : mk (al z e m) m = mk z e := by
 unfold al
 rw [zdl]
 congr 1
 omega
theorem zb2 (e m : Int) : al 0 e m = 0 := by unfold al; rw [Int.zero_mul]
theorem zcn {z e m n : Int} (h1 : m ≤ e) (h2 : n ≤ m) : al (al z e m) m n = al z e n := by
 unfold al
 rw [Int.mul_assoc, ← Int.pow_add]
 congr 2
 omega
theorem zfu (x y e m : Int) : al (x + y) e m = al x e m + al y e m := by unfold al; rw [Int.add_mul]
theorem zbu (s : Bool) (n : Nat) (e m : Int) : al (sv s n) e m = sv s (n * 2 ^ (e - m).toNat) := by
 unfold al sv
 split
 ·rw [Int.neg_mul, Int.natCast_mul, Int.natCast_pow]; rfl
 ·rw [Int.natCast_mul, Int.natCast_pow]; rfl
theorem ze1 (s : Bool) (x y : Nat) : sv s x + sv s y = sv s (x + y) := by unfold sv; split <;> omega
theorem zcR {s t : Bool} (h : s ≠ t) {x y : Nat} (hl : y ≤ x) : sv s x + sv t y = sv s (x - y) := by
 unfold sv
 cases s <;> cases t <;> simp at h ⊢ <;> omega
theorem ze4 (s : Bool) (n : Nat) : sv (!s) n = -sv s n := by unfold sv; cases s <;> simp
def zw (za ea zb eb : Int) : Bool × List Int × Int := mk (al za ea (min ea eb) + al zb eb (min ea eb)) (min ea eb)
theorem zb1 {za ea zb eb m : Int} (h1 : m ≤ ea) (h2 : m ≤ eb) : mk (al za ea m + al zb eb m) m = zw za ea zb eb := by
 unfold zw
 have h3 : m ≤ min ea eb := by omega
 rw [← zcn (z := za) (e := ea) (m := min ea eb) (n := m) (by omega) h3, ← zcn (z := zb) (e := eb) (m := min ea eb) (n := m) (by omega) h3, ← zfu]
 exact zdk h3
theorem zcm (ea zb eb : Int) : zw 0 ea zb eb = mk zb eb := by
 unfold zw; rw [zb2, Int.zero_add]; exact zdk (by omega)
theorem zdL (za ea eb : Int) : zw za ea 0 eb = mk za ea := by
 unfold zw; rw [zb2, Int.add_zero]; exact zdk (by omega)
theorem zfc {l : List Int} (h : Dg l) {n : Nat} : (D (V l * 2 ^ n)).length ≤ l.length + n / 32 + 1 := by
 refine zak (Nat.le_trans (zbw _ _) ?_)
 have := zaW h
 omega
theorem zfl {e m : Int} (h1 : -1000000000000000 ≤ e) (h2 : e ≤ 1000000000000000) (h3 : -1000000000000000 ≤ m) (h4 : m ≤ e) : wrap64 (e - m) = ((e - m).toNat : Int) := by unfold wrap64; omega
theorem zeG {sa sb : Bool} {la lb : List Int} {ea eb m : Int} (na : Nm la) (nb : Nm lb) (ha : la.length ≤ 1000000) (hb : lb.length ≤ 1000000) (h1 : m ≤ ea) (h2 : m ≤ eb) (h3 : (ea - m).toNat ≤ 100000000) (h4 : (eb - m).toNat ≤ 100000000) (hm : -100000000000000 ≤ m) (hM : m ≤ 100000000000000) :
  Ev (fun k => zY.j2 k sa la ea sb lb eb false [] 0 m) (mk (al (sv sa (V la)) ea m + al (sv sb (V lb)) eb m) m) := by
 refine zf ?_
 simp only [zY.j2]
 rw [zfl (e := ea) (by omega) (by omega) (by omega) h1, zfl (e := eb) (by omega) (by omega) (by omega) h2]
 rw [zbu, zbu]
 generalize (ea - m).toNat = p at *
 generalize (eb - m).toNat = q at *
 have l1 := zfc na.dg (n := p)
 have l2 := zfc nb.dg (n := q)
 refine Ev.bind (zeP na.dg (by omega) p (by omega)) ?_
 (repeat (first | with_reducible refine ep ?_ | with_reducible refine en ?_))
 refine Ev.bind (zeP nb.dg (by omega) q (by omega)) ?_
 (repeat (first | with_reducible refine ep ?_ | with_reducible refine en ?_))
 generalize V la * 2 ^ p = x at *
 generalize V lb * 2 ^ q = y at *
 by_cases hs : sa = sb
 ·subst hs
  have hadd := zg1 (zck x) (zck y) (by omega) (by omega)
  rw [V_D, V_D] at hadd
  have l3 : (D (x + y)).length ≤ la.length + lb.length + p / 32 + q / 32 + 3 := by
   refine zcY ?_
   have h5 := zbM x
   have h6 := zbM y
   refine zhu (N := la.length + lb.length + p / 32 + q / 32 + 3) h5 h6 (by omega) (by omega)
  have hf := zcN sa (zu (x + y)) (by omega) (e := m) (by omega) (by omega)
  rw [V_D] at hf
  (repeat (first | with_reducible refine ep ?_ | with_reducible refine en ?_))
  refine Ev.bind hadd ?_
  (repeat (first | with_reducible refine ep ?_ | with_reducible refine en ?_))
  refine Ev.bind hf ?_
  (repeat (first | with_reducible refine ep ?_ | with_reducible refine en ?_))
  refine zg (Ev.now _) ?_
  rw [ze1]
 ·refine ze (by simpa using hs) ?_
  refine Ev.bind (zg4 (zu x) (zu y) (by omega)) ?_
  (repeat (first | with_reducible refine ep ?_ | with_reducible refine en ?_))
  rw [V_D, V_D]
  by_cases hc : y ≤ x
  ·have hsub := zeN (zu x) (zu y) (by omega) (by rw [V_D, V_D]; exact hc)
   rw [V_D, V_D] at hsub
   have l3 : (D (x - y)).length ≤ (D x).length := zbY (Nat.sub_le _ _)
   have hf := zcN sa (zu (x - y)) (by omega) (e := m) (by omega) (by omega)
   rw [V_D] at hf
   refine zd (zc8.2 hc) ?_
   refine Ev.bind hsub ?_
   (repeat (first | with_reducible refine ep ?_ | with_reducible refine en ?_))
   refine Ev.bind hf ?_
   (repeat (first | with_reducible refine ep ?_ | with_reducible refine en ?_))
   refine zg (Ev.now _) ?_
   rw [zcR hs hc]
  ·have hsub := zeN (zu y) (zu x) (by omega) (by rw [V_D, V_D]; omega)
   rw [V_D, V_D] at hsub
   have l3 : (D (y - x)).length ≤ (D y).length := zbY (Nat.sub_le _ _)
   have hf := zcN sb (zu (y - x)) (by omega) (e := m) (by omega) (by omega)
   rw [V_D] at hf
   refine ze (fun h => hc (zc8.1 h)) ?_
   refine Ev.bind hsub ?_
   (repeat (first | with_reducible refine ep ?_ | with_reducible refine en ?_))
   refine Ev.bind hf ?_
   (repeat (first | with_reducible refine ep ?_ | with_reducible refine en ?_))
   refine zg (Ev.now _) ?_
   rw [Int.add_comm, zcR (fun h => hs h.symm) (by omega)]
structure zcl (la : List Int) (ea : Int) (lb : List Int) (eb : Int) : Prop where
 a : la.length ≤ 1000000
 b : lb.length ≤ 1000000
 d : (ea - eb).natAbs ≤ 100000000
 e : -10000000000000 ≤ ea ∧ ea ≤ 10000000000000
theorem zeL {sa sb : Bool} {la lb : List Int} {ea eb : Int} (ha : Dy sa la ea) (hb : Dy sb lb eb) (h : zcl la ea lb eb) : Ev (fun k => zY.f k sa la ea sb lb eb) (zw (sv sa (V la)) ea (sv sb (V lb)) eb) := by
 obtain ⟨h1, h2, h3, h4⟩ := h
 unfold zY.f
 by_cases c : la = []
 ·subst c
  (repeat (first | with_reducible refine ep ?_ | with_reducible refine en ?_))
  refine zg (Ev.now _) ?_
  rw [zE, zW, zcm, zcI hb]
 refine ze (fun h => c (zS.1 h)) ?_
 by_cases c2 : lb = []
 ·subst c2
  (repeat (first | with_reducible refine ep ?_ | with_reducible refine en ?_))
  refine zg (Ev.now _) ?_
  rw [zE, zW, zdL, zcI ha]
 refine ze (fun h => c2 (zS.1 h)) ?_
 by_cases c3 : eb < ea
 ·refine zd c3 ?_
  exact zg (zeG ha.nm hb.nm h1 h2 (by omega) (by omega) (by omega) (by omega) (by omega) (by omega)) (zb1 (by omega) (by omega))
 ·refine ze c3 ?_
  exact zg (zeG ha.nm hb.nm h1 h2 (by omega) (by omega) (by omega) (by omega) (by omega) (by omega)) (zb1 (by omega) (by omega))
theorem zcE {l : List Int} (c : l ≠ []) : (l.length : Int) > 0 := by
 have := List.length_pos_iff.2 c
 omega
theorem zg8 {s : Bool} {l : List Int} {e : Int} (h : Dy s l e) : zbA.f s l e = some (mk (-(sv s (V l))) e) := by
 unfold zbA.f
 by_cases c : l = []
 ·obtain ⟨h1, h2⟩ := h.none c
  subst c; subst h1; subst h2
  rfl
 ·have hl := zcE c
  have h1 := h.odd c
  have h0 : V l ≠ 0 := by omega
  rw [if_pos hl, ← ze4, zce _ h0, zcb h1, Nat.pow_zero, Nat.div_one, h.nm]
  simp
theorem zgr {z e : Int} : (mk z e).2.1 = D (z.natAbs / 2 ^ lw z.natAbs) := by
 unfold mk
 by_cases h : z = 0
 ·subst h; rw [if_pos rfl]; simp [zC]
 ·rw [if_neg h]
theorem zaS {s : Bool} {n : Nat} (h : n ≠ 0) : (sv s n).sign = if s = true then -1 else 1 := by
 unfold sv
 split
 ·exact Int.sign_eq_neg_one_of_neg (by omega)
 ·exact Int.sign_eq_one_of_pos (by omega)
theorem zcO {s : Bool} {l : List Int} {e : Int} (h : Dy s l e) : zaD.f s l e = some (sv s (V l)).sign := by
 unfold zaD.f
 by_cases c : l = []
 ·subst c
  rw [if_pos (zS.2 rfl), zE, zW]; rfl
 ·have h1 := h.odd c
  have h0 : V l ≠ 0 := by omega
  rw [if_neg (fun h => c (zS.1 h)), zaS h0]
  split <;> rfl
def top (z e : Int) : Int := if z = 0 then 0 else e + (bl z.natAbs : Nat)
theorem zeO {s : Bool} {l : List Int} {e : Int} (h : Dy s l e) (hl : l.length ≤ 1000000) (h1 : -1000000000000000 ≤ e) (h2 : e ≤ 1000000000000000) : Ev (fun k => zaL.f k s l e) (top (sv s (V l)) e) := by
 unfold zaL.f top
 by_cases c : l = []
 ·subst c
  (repeat (first | with_reducible refine ep ?_ | with_reducible refine en ?_))
  exact zg (Ev.now _) (by rw [zE, zW]; rfl)
 ·have h3 := h.odd c
  have h0 : V l ≠ 0 := by omega
  have hb := zaW h.nm.dg
  refine ze (fun h => c (zS.1 h)) ?_
  refine Ev.bind (zdr h.nm (by omega)) ?_
  (repeat (first | with_reducible refine ep ?_ | with_reducible refine en ?_))
  refine zg (Ev.now _) ?_
  rw [if_neg (fun h => h0 (za8.1 h)), zaR, zcT h1 h2 (by omega)]
theorem ze2 (s t : Bool) (x y : Nat) : sv s x * sv t y = sv (s != t) (x * y) := by
 unfold sv
 cases s <;> cases t <;> simp [Int.mul_neg, Int.neg_mul]
theorem zgG (s t : Bool) : decide (¬ s = t) = (s != t) := by cases s <;> cases t <;> rfl
theorem zg6 {sa sb : Bool} {la lb : List Int} {ea eb : Int} (ha : Dy sa la ea) (hb : Dy sb lb eb) (l1 : la.length ≤ 1000000) (l2 : lb.length ≤ 1000000) (h1 : -100000000000000 ≤ ea) (h2 : ea ≤ 100000000000000) (h3 : -100000000000000 ≤ eb) (h4 : eb ≤ 100000000000000) :
  Ev (fun k => zau.f k sa la ea sb lb eb) (mk (sv sa (V la) * sv sb (V lb)) (ea + eb)) := by
 unfold zau.f
 have e : wrap64 (ea + eb) = ea + eb := by unfold wrap64; omega
 rw [e]
 have hl : (D (V la * V lb)).length ≤ la.length + lb.length := zgm (by rw [ha.nm.len]; exact Nat.le_refl _) (by rw [hb.nm.len]; exact Nat.le_refl _)
 have hf := zcN (sa != sb) (zu (V la * V lb)) (by omega) (e := ea + eb) (by omega) (by omega)
 rw [V_D] at hf
 refine Ev.bind (zg7 ha.nm.dg hb.nm.dg (by omega) (by omega)) ?_
 (repeat (first | with_reducible refine ep ?_ | with_reducible refine en ?_))
 rw [zgG]
 refine Ev.bind hf ?_
 (repeat (first | with_reducible refine ep ?_ | with_reducible refine en ?_))
 refine zg (Ev.now _) ?_
 rw [ze2]
theorem zg9 {sa sb : Bool} {la lb : List Int} {ea eb : Int} (ha : Dy sa la ea) (hb : Dy sb lb eb) (h : zcl la ea lb eb) : Ev (fun k => zbB.f k sa la ea sb lb eb) (zw (sv sa (V la)) ea (-(sv sb (V lb))) eb) := by
 unfold zbB.f
 have hn := zaB (-(sv sb (V lb))) eb
 have e1 : mk (-(sv sb (V lb))) eb = ((mk (-(sv sb (V lb))) eb).1, (mk (-(sv sb (V lb))) eb).2.1, (mk (-(sv sb (V lb))) eb).2.2) := rfl
 have hv : (mk (-(sv sb (V lb))) eb).2.1 = lb ∧ sv (mk (-(sv sb (V lb))) eb).1 (V lb) = -(sv sb (V lb)) ∧ (mk (-(sv sb (V lb))) eb).2.2 = eb := by
  by_cases c : lb = []
  ·obtain ⟨h1, h2⟩ := hb.none c
   subst c; subst h1; subst h2
   exact ⟨rfl, by rw [zE, zW, zW]; rfl, rfl⟩
  ·have h3 := hb.odd c
   have h0 : V lb ≠ 0 := by omega
   rw [← ze4, zce _ h0, zcb h3, Nat.pow_zero, Nat.div_one, hb.nm]
   exact ⟨rfl, rfl, by simp⟩
 refine zh (zg8 hb) ?_
 (repeat (first | with_reducible refine ep ?_ | with_reducible refine en ?_))
 rw [hv.1, hv.2.2] at hn
 have ha2 := zeL ha hn h
 rw [hv.2.1] at ha2
 simp only [hv.1, hv.2.2]
 refine Ev.bind ha2 ?_
 (repeat (first | with_reducible refine ep ?_ | with_reducible refine en ?_))
 exact Ev.now _
theorem zgt (z e : Int) : (sv (mk z e).1 (V (mk z e).2.1)).sign = z.sign := by
 unfold mk
 by_cases h : z = 0
 ·subst h; rfl
 ·rw [if_neg h]
  have hn : z.natAbs ≠ 0 := by omega
  have h1 : V (D (z.natAbs / 2 ^ lw z.natAbs)) ≠ 0 := by
   rw [V_D]
   have h2 := (za4 hn).le
   have := Nat.div_pos h2 (zt _)
   omega
  show (sv (decide (z < 0)) (V (D (z.natAbs / 2 ^ lw z.natAbs)))).sign = z.sign
  rw [zaS h1]
  by_cases h3 : z < 0
  ·rw [decide_eq_true h3, if_pos rfl, Int.sign_eq_neg_one_of_neg h3]
  ·rw [decide_eq_false h3, if_neg (by simp), Int.sign_eq_one_of_pos (by omega)]
theorem zgP (k : Nat) : (0 : Int) < 2 ^ k := Int.pow_pos (by omega)
theorem zT (z e m : Int) : (al z e m).sign = z.sign := by
 unfold al
 rw [Int.sign_mul, Int.sign_eq_one_of_pos (zgP _), Int.mul_one]
theorem zdO (z e m : Int) : (al z e m).natAbs = z.natAbs * 2 ^ (e - m).toNat := by
 unfold al
 rw [Int.natAbs_mul, Int.natAbs_pow]; rfl
theorem zco {z e m : Int} (h : z ≠ 0) (hm : m ≤ e) : ((bl (al z e m).natAbs : Nat) : Int) + m = top z e := by
 rw [zdO, zfF (by omega)]
 unfold top
 rw [if_neg h]
 omega
theorem zem {x y : Nat} (h : bl x < bl y) : x < y := by
 rcases Nat.lt_or_ge x y with h1 | h1
 ·exact h1
 ·have := zb3 h1; omega
def zj (za ea zb eb : Int) : Int := (al za ea (min ea eb) - al zb eb (min ea eb)).sign
theorem zda {a b : Int} : (a - b).sign = if a < b then -1 else if b < a then 1 else 0 := by
 split
 ·exact Int.sign_eq_neg_one_of_neg (by omega)
 ·split
  ·exact Int.sign_eq_one_of_pos (by omega)
  ·have : a - b = 0 := by omega
   rw [this]; rfl
theorem zaz (z : Int) : (z < 0 ∧ z.sign = -1) ∨ (z = 0 ∧ z.sign = 0) ∨ (0 < z ∧ z.sign = 1) := by
 rcases Int.lt_trichotomy z 0 with h | h | h
 ·exact .inl ⟨h, Int.sign_eq_neg_one_of_neg h⟩
 ·exact .inr (.inl ⟨h, by rw [h]; rfl⟩)
 ·exact .inr (.inr ⟨h, Int.sign_eq_one_of_pos h⟩)
theorem zd8 {a b : Int} (h : a.sign ≠ b.sign) : (a - b).sign = if a.sign < b.sign then -1 else 1 := by
 rw [zda]
 rcases zaz a with ⟨h1, e1⟩ | ⟨h1, e1⟩ | ⟨h1, e1⟩ <;> rcases zaz b with ⟨h2, e2⟩ | ⟨h2, e2⟩ | ⟨h2, e2⟩ <;> rw [e1, e2] at h ⊢ <;> first | exact absurd rfl h | (simp <;> omega)
theorem zc9 {a b : Int} (h : a.sign = b.sign) (h0 : a.sign ≠ 0) (hl : bl a.natAbs ≠ bl b.natAbs) : (a - b).sign = if (decide (bl a.natAbs < bl b.natAbs) == decide (a.sign > 0)) = true then -1 else 1 := by
 rw [zda]
 have hlt : bl a.natAbs < bl b.natAbs ∨ bl b.natAbs < bl a.natAbs := by omega
 have hn : a.natAbs ≠ b.natAbs := fun e => hl (by rw [e])
 rcases hlt with h1 | h1
 ·have h2 := zem h1
  rw [decide_eq_true h1]
  rcases zaz a with ⟨h3, e1⟩ | ⟨h3, e1⟩ | ⟨h3, e1⟩
  ·rw [e1] at h ⊢
   have : b < 0 := by rcases zaz b with ⟨h4, e2⟩ | ⟨h4, e2⟩ | ⟨h4, e2⟩ <;> omega
   rw [if_neg (by omega), if_pos (by omega)]; rfl
  ·exact absurd e1 h0
  ·rw [e1] at h ⊢
   have : 0 < b := by rcases zaz b with ⟨h4, e2⟩ | ⟨h4, e2⟩ | ⟨h4, e2⟩ <;> omega
   rw [if_pos (by omega)]; rfl
 ·have h2 := zem h1
  rw [decide_eq_false (by omega : ¬ bl a.natAbs < bl b.natAbs)]
  rcases zaz a with ⟨h3, e1⟩ | ⟨h3, e1⟩ | ⟨h3, e1⟩
  ·rw [e1] at h ⊢
   have : b < 0 := by rcases zaz b with ⟨h4, e2⟩ | ⟨h4, e2⟩ | ⟨h4, e2⟩ <;> omega
   rw [if_pos (by omega)]; rfl
  ·exact absurd e1 h0
  ·rw [e1] at h ⊢
   have : 0 < b := by rcases zaz b with ⟨h4, e2⟩ | ⟨h4, e2⟩ | ⟨h4, e2⟩ <;> omega
   rw [if_neg (by omega), if_pos (by omega)]; rfl
theorem zfK (za ea zb eb : Int) : zj za ea zb eb = (al za ea (min ea eb) - al zb eb (min ea eb)).sign := rfl
theorem zeX {z : Int} (h : z.sign ≠ 0) : z ≠ 0 := fun e => h (by rw [e]; rfl)
theorem zg3 {sa sb : Bool} {la lb : List Int} {ea eb : Int} (ha : Dy sa la ea) (hb : Dy sb lb eb) (h : zcl la ea lb eb) : Ev (fun k => zbf.f k sa la ea sb lb eb) (zj (sv sa (V la)) ea (sv sb (V lb)) eb) := by
 have hs := zg9 ha hb h
 obtain ⟨h1, h2, h3, h4⟩ := h
 have ta := zeO ha h1 (by omega) (by omega)
 have tb := zeO hb h2 (by omega) (by omega)
 unfold zbf.f
 refine zh (zcO ha) ?_
 (repeat (first | with_reducible refine ep ?_ | with_reducible refine en ?_))
 refine zh (zcO hb) ?_
 (repeat (first | with_reducible refine ep ?_ | with_reducible refine en ?_))
 rw [zfK]
 generalize hza : sv sa (V la) = za at *
 generalize hzb : sv sb (V lb) = zb at *
 have hm1 : min ea eb ≤ ea := by omega
 have hm2 : min ea eb ≤ eb := by omega
 by_cases c : za.sign = zb.sign
 ·refine ze (fun h => h c) ?_
  by_cases c0 : za.sign = 0
  ·refine zd c0 ?_
   refine zg (Ev.now _) ?_
   have e1 : za = 0 := by rcases zaz za with ⟨_, e⟩ | ⟨e, _⟩ | ⟨_, e⟩ <;> omega
   have e2 : zb = 0 := by rcases zaz zb with ⟨_, e⟩ | ⟨e, _⟩ | ⟨_, e⟩ <;> omega
   rw [e1, e2, zb2, zb2]; rfl
  ·refine ze c0 ?_
   refine Ev.bind ta ?_
   (repeat (first | with_reducible refine ep ?_ | with_reducible refine en ?_))
   refine Ev.bind tb ?_
   (repeat (first | with_reducible refine ep ?_ | with_reducible refine en ?_))
   have ba := zco (zeX c0) hm1
   have bb := zco (z := zb) (zeX (by rw [← c]; exact c0)) hm2
   by_cases ct : top za ea = top zb eb
   ·refine ze (fun h => h ct) ?_
    refine Ev.bind hs ?_
    (repeat (first | with_reducible refine ep ?_ | with_reducible refine en ?_))
    have hd := zaB (al za ea (min ea eb) + al (-zb) eb (min ea eb)) (min ea eb)
    have hg : zw za ea (-zb) eb = mk (al za ea (min ea eb) + al (-zb) eb (min ea eb)) (min ea eb) := rfl
    rw [hg]
    refine zh (zcO hd) ?_
    (repeat (first | with_reducible refine ep ?_ | with_reducible refine en ?_))
    refine zg (Ev.now _) ?_
    rw [zgt]
    congr 1
    unfold al
    rw [Int.neg_mul]; rfl
   ·refine zd ct ?_
    refine Ev.bind ta ?_
    (repeat (first | with_reducible refine ep ?_ | with_reducible refine en ?_))
    refine Ev.bind tb ?_
    (repeat (first | with_reducible refine ep ?_ | with_reducible refine en ?_))
    have hne : bl (al za ea (min ea eb)).natAbs ≠ bl (al zb eb (min ea eb)).natAbs := fun e => ct (by rw [← ba, ← bb, e])
    have hc := zc9 (a := al za ea (min ea eb)) (b := al zb eb (min ea eb)) (by rw [zT, zT]; exact c) (by rw [zT]; exact c0) hne
    rw [zT] at hc
    have hd : decide (top za ea < top zb eb) = decide (bl (al za ea (min ea eb)).natAbs < bl (al zb eb (min ea eb)).natAbs) := decide_eq_decide.2 (by omega)
    rw [hc, hd]
    generalize decide (bl (al za ea (min ea eb)).natAbs < bl (al zb eb (min ea eb)).natAbs) = p
    generalize decide (za.sign > 0) = q
    by_cases cq : p = q
    ·exact zd cq (zg (Ev.now _) (by rw [if_pos (beq_iff_eq.2 cq)]))
    ·exact ze cq (zg (Ev.now _) (by rw [if_neg (fun h => cq (beq_iff_eq.1 h))]))
 ·refine zd c ?_
  have hc := zd8 (a := al za ea (min ea eb)) (b := al zb eb (min ea eb)) (by rw [zT, zT]; exact c)
  rw [zT, zT] at hc
  rw [hc]
  by_cases c1 : za.sign < zb.sign
  ·refine zd c1 ?_
   exact zg (Ev.now _) (if_pos c1).symm
  ·refine ze c1 ?_
   exact zg (Ev.now _) (if_neg c1).symm
theorem zfx (X : Nat) (hX : X < 4294967296) : Go.bits .and .u32 (X : Int) 1 = ((X % 2 : Nat) : Int) := by
 have h1 : (BitVec.ofInt 32 (X : Int)).toNat = X := by
  rw [BitVec.ofInt_natCast, BitVec.toNat_ofNat]; exact Nat.mod_eq_of_lt (by omega)
 show IntKind.u32.wrap ((BitVec.ofInt 32 (X : Int) &&& BitVec.ofInt 32 1).toNat : Int) = _
 have h2 : (BitVec.ofInt 32 (1 : Int)).toNat = 1 := by decide
 have h3 : ∀ n : Int, IntKind.u32.wrap n = n % 4294967296 := fun n => by simp [IntKind.wrap, IntKind.signed, IntKind.bits]
 rw [BitVec.toNat_and, h1, h2, h3, Nat.and_one_is_mod]
 omega
theorem zdh {l : List Int} (h : Dg l) : Go.bits .and .u32 (rd l 0) 1 = ((V l % 2 : Nat) : Int) := by
 have h1 := h.getD 0
 have h2 := zdF h 0
 rw [Nat.pow_zero, Nat.div_one] at h2
 have h3 : rd l 0 = l.getD 0 0 := rdn l 0
 rw [h3]
 obtain ⟨x, hx⟩ := Int.eq_ofNat_of_zero_le h1.1
 rw [hx] at h1 h2 ⊢
 rw [zfx x (by omega)]
 rw [Int.toNat_natCast] at h2
 omega
structure My (s : Bool) (l : List Int) (e : Int) : Prop where
 dy : Dy s l e
 len : l.length ≤ 4096
 lo : -16777216 ≤ e
 hi : e ≤ 16777216
theorem zb8 {s : Bool} {l : List Int} {e : Int} (h : My s l e) : zx.f s l e = some true := by
 obtain ⟨hd, hl, h1, h2⟩ := h
 unfold zx.f
 rw [zaQ hd.nm.dg (by omega), Option.bind_some, zae.2 ⟨hl, hd.nm⟩, if_neg (by simp)]
 by_cases c : l = []
 ·obtain ⟨h3, h4⟩ := hd.none c
  subst c; subst h3; subst h4
  rfl
 ·have ho := hd.odd c
  rw [if_neg (fun h => c (zS.1 h)), if_pos (zcE c), zdh hd.nm.dg, if_pos (by omega)]
  unfold zbk.f
  rw [if_pos h1, decide_eq_true h2]; rfl
theorem zdf (s : Bool) {l : List Int} (e : Int) (h : l.length ≤ 4096) : zav.f s l e = some (s, l, e) := by
 unfold zav.f
 rw [if_pos (by omega)]
theorem zdc {s : Bool} {l : List Int} {e : Int} (h : My s l e) : Ev (fun k => zac.f k s l e) (sv s (V l)).sign := by
 unfold zac.f
 refine zh (zb8 h) ?_
 (repeat (first | with_reducible refine ep ?_ | with_reducible refine en ?_))
 refine zf ?_
 simp only [zac.j0]
 by_cases c : l = []
 ·subst c
  (repeat (first | with_reducible refine ep ?_ | with_reducible refine en ?_))
  exact zg (Ev.now _) (by rw [zE, zW]; rfl)
 ·have h1 := h.dy.odd c
  have h0 : V l ≠ 0 := by omega
  refine ze (by simpa using fun e => c e) ?_
  rw [zaS h0]
  by_cases hs : s = true
  ·refine zd hs ?_
   exact zg (Ev.now _) (if_pos hs).symm
  ·refine ze hs ?_
   exact zg (Ev.now _) (if_neg hs).symm
theorem zdd {s : Bool} {l : List Int} {e : Int} (h : My s l e) : Ev (fun k => zaN.f k s l e) (top (sv s (V l)) e) := by
 have hb := zaW h.dy.nm.dg
 have hl := h.len
 have e1 := h.lo
 have e2 := h.hi
 unfold zaN.f top
 refine zh (zb8 h) ?_
 (repeat (first | with_reducible refine ep ?_ | with_reducible refine en ?_))
 by_cases c : l = []
 ·subst c
  (repeat (first | with_reducible refine ep ?_ | with_reducible refine en ?_))
  exact zg (Ev.now _) (by rw [zE, zW]; rfl)
 ·have h1 := h.dy.odd c
  have h0 : V l ≠ 0 := by omega
  refine ze (fun h => c (zS.1 h)) (Ev.bind (zbO h.dy.nm hl) (zg (Ev.now _) ?_))
  rw [if_neg (fun h => h0 (za8.1 h)), zaR, zcT (by omega) (by omega) (by omega)]
theorem zgq {s : Bool} {n : Nat} {e : Int} (h1 : -16777216 ≤ e) (h2 : e + (bl n : Nat) ≤ 16777216) : zcc s n e = ((mk (sv s n) e).1, (mk (sv s n) e).2.1, (mk (sv s n) e).2.2, 0) := by
 unfold zcc
 by_cases h0 : n = 0
 ·rw [if_pos h0, h0, zW]; rfl
 ·have := zcG h0
  rw [if_neg h0, if_neg (by omega), if_neg (by omega)]
theorem zde {sa sb : Bool} {la lb : List Int} {ea eb : Int} (ha : My sa la ea) (hb : My sb lb eb) : Ev (fun k => zH.f k [(sa, la, ea), (sb, lb, eb)]) true := by
 unfold zH.f
 have e1 : wrap64 (0 + 1) = 1 := by rw [zar (by omega) (by omega)]; rfl
 have e2 : wrap64 (1 + 1) = 2 := by rw [zar (by omega) (by omega)]; rfl
 have el : (([(sa, la, ea), (sb, lb, eb)] : List (Bool × List Int × Int)).length : Int) = 2 := rfl
 have r0 : rdT [.b, .is .u32, .i .i64] [(sa, la, ea), (sb, lb, eb)] 0 = ⟨sa, la, ea⟩ := rfl
 have r1 : rdT [.b, .is .u32, .i .i64] [(sa, la, ea), (sb, lb, eb)] 1 = ⟨sb, lb, eb⟩ := rfl
 refine zf ?_
 simp only [zH.l0, el, e1, e2, r0]
 (repeat (first | with_reducible refine ep ?_ | with_reducible refine en ?_))
 refine zh (zb8 ha) ?_
 (repeat (first | with_reducible refine ep ?_ | with_reducible refine en ?_))
 refine zf ?_
 simp only [zH.l0, el, e1, e2, r1]
 (repeat (first | with_reducible refine ep ?_ | with_reducible refine en ?_))
 refine zh (zb8 hb) ?_
 (repeat (first | with_reducible refine ep ?_ | with_reducible refine en ?_))
 refine zf ?_
 simp only [zH.l0, el, e1, e2]
 (repeat (first | with_reducible refine ep ?_ | with_reducible refine en ?_))
 exact Ev.now _
def ok3 (d : Bool × List Int × Int) : Bool × List Int × Int × Int := (d.1, d.2.1, d.2.2, 0)
theorem zcH {s : Bool} {n : Nat} {e : Int} (h1 : -16777216 ≤ e) (h2 : e + (bl n : Nat) ≤ 16777216) : zcc s n e = ok3 (mk (sv s n) e) := zgq h1 h2
theorem zdT (x y : Nat) : bl (x + y) ≤ max (bl x) (bl y) + 1 := by
 refine zaC ?_
 have h1 := zax x
 have h2 := zax y
 have h3 : 2 ^ bl x ≤ 2 ^ max (bl x) (bl y) := Nat.pow_le_pow_right (by omega) (by omega)
 have h4 : 2 ^ bl y ≤ 2 ^ max (bl x) (bl y) := Nat.pow_le_pow_right (by omega) (by omega)
 rw [Nat.pow_succ]
 omega
theorem zd0 {n : Nat} (h : bl n ≤ 131072) : zao n = (D n, 0) := by
 have : (D n).length ≤ 4096 := zak (by omega)
 unfold zao
 rw [if_neg (by omega)]
theorem zf1 (p q : Bool) (x y : Nat) {e : Int} (hx : bl x ≤ 131000) (hy : bl y ≤ 131000) (h1 : -16000000 ≤ e) (h2 : e ≤ 16000000) : Ev (fun k => zaj.f k p (D x) q (D y) e) (ok3 (mk (sv p x + sv q y) e)) := by
 have lx : (D x).length ≤ 4096 := zak (by omega)
 have ly : (D y).length ≤ 4096 := zak (by omega)
 unfold zaj.f
 by_cases hs : p = q
 ·subst hs
  have hb := zdT x y
  have a1 := zgA (zu x) (zu y) lx ly
  rw [V_D, V_D, zd0 (by omega)] at a1
  have m1 := zcw p (zu (x + y)) (zak (by omega)) e
  rw [V_D, zcH (by omega) (by omega), ← ze1] at m1
  (repeat (first | with_reducible refine ep ?_ | with_reducible refine en ?_))
  refine Ev.bind a1 ?_
  (repeat (first | with_reducible refine ep ?_ | with_reducible refine en ?_))
  refine Ev.bind m1 ?_
  (repeat (first | with_reducible refine ep ?_ | with_reducible refine en ?_))
  exact Ev.now _
 ·refine ze (by simpa using hs) ?_
  have c1 := zcL (zu x) (zu y) lx ly
  rw [V_D, V_D] at c1
  refine Ev.bind c1 ?_
  (repeat (first | with_reducible refine ep ?_ | with_reducible refine en ?_))
  by_cases hc : x < y
  ·have s1 := zet (zu y) (zu x) ly lx
   rw [V_D, V_D, show zbS y x = (D (y - x), 0) by unfold zbS; rw [if_neg (by omega)]] at s1
   have hb := zb3 (show y - x ≤ y by omega)
   have m1 := zcw q (zu (y - x)) (zak (by omega)) e
   rw [V_D, zcH (by omega) (by omega), ← zcR (fun h => hs h.symm) (by omega), Int.add_comm] at m1
   refine zd (zd5.2 hc) ?_
   refine zf ?_
   simp only [zaj.j2]
   refine Ev.bind s1 ?_
   (repeat (first | with_reducible refine ep ?_ | with_reducible refine en ?_))
   refine Ev.bind m1 ?_
   (repeat (first | with_reducible refine ep ?_ | with_reducible refine en ?_))
   exact Ev.now _
  ·have s1 := zet (zu x) (zu y) lx ly
   rw [V_D, V_D, show zbS x y = (D (x - y), 0) by unfold zbS; rw [if_neg (by omega)]] at s1
   have hb := zb3 (show x - y ≤ x by omega)
   have m1 := zcw p (zu (x - y)) (zak (by omega)) e
   rw [V_D, zcH (by omega) (by omega), ← zcR hs (by omega)] at m1
   refine ze (fun h => hc (zd5.1 h)) ?_
   refine zf ?_
   simp only [zaj.j2]
   refine Ev.bind s1 ?_
   (repeat (first | with_reducible refine ep ?_ | with_reducible refine en ?_))
   refine Ev.bind m1 ?_
   (repeat (first | with_reducible refine ep ?_ | with_reducible refine en ?_))
   exact Ev.now _
structure Sm (s : Bool) (l : List Int) (e : Int) : Prop where
 dy : Dy s l e
 len : l.length ≤ 1000
 lo : -40000 ≤ e
 hi : e ≤ 40000
theorem Sm.my {s : Bool} {l : List Int} {e : Int} (h : Sm s l e) : My s l e := ⟨h.dy, Nat.le_trans h.len (by omega), by have := h.lo; omega, by have := h.hi; omega⟩
theorem zex {s : Bool} {l : List Int} {e : Int} (h : Dy s l e) : ok3 (mk (sv s (V l)) e) = (s, l, e, 0) := by rw [zcI h]; rfl
theorem zfZ {s : Bool} {l : List Int} {e n : Int} (h : My s l e) (hn : -1000000000000 ≤ n ∧ n ≤ 1000000000000) (h1 : -16777216 ≤ e + n) (h2 : e + n ≤ 16777216) : za2.f s l e n = some (ok3 (mk (sv s (V l)) (e + n))) := by
 have lo := h.lo
 have hi := h.hi
 unfold za2.f
 rw [zb8 h, Option.bind_some, if_neg (by simp)]
 by_cases c : l = []
 ·subst c
  rw [if_pos (zS.2 rfl), zE, zW]; rfl
 ·have ho := h.dy.odd c
  have h0 : V l ≠ 0 := by omega
  have e1 : wrap64 (16777216 - e) = 16777216 - e := by unfold wrap64; omega
  have e2 : wrap64 (-16777216 - e) = -16777216 - e := by unfold wrap64; omega
  have e3 : wrap64 (e + n) = e + n := by unfold wrap64; omega
  rw [if_neg (fun h => c (zS.1 h)), e1, e2, if_neg (by omega), if_neg (by omega), zdf s e h.len, Option.bind_some, e3]
  rw [zce _ h0, zcb ho, Nat.pow_zero, Nat.div_one, h.dy.nm]
  simp [ok3]
theorem zd6 (x y : Nat) : zA x y = ((x : Int) - (y : Int)).sign := by
 rw [zda]
 unfold zA
 rcases Nat.lt_trichotomy x y with h | h | h
 ·rw [if_pos h, if_pos (show (x : Int) < (y : Int) by omega)]
 ·subst h; simp
 ·rw [if_neg (show ¬ x < y by omega), if_pos h, if_neg (show ¬ (x : Int) < (y : Int) by omega), if_pos (show (y : Int) < (x : Int) by omega)]
theorem zc6 {za ea zb eb m : Int} (h1 : m ≤ ea) (h2 : m ≤ eb) : (al za ea m - al zb eb m).sign = zj za ea zb eb := by
 unfold zj
 have h3 : m ≤ min ea eb := by omega
 rw [← zcn (z := za) (e := ea) (m := min ea eb) (n := m) (by omega) h3, ← zcn (z := zb) (e := eb) (m := min ea eb) (n := m) (by omega) h3]
 generalize al za ea (min ea eb) = x
 generalize al zb eb (min ea eb) = y
 have e : al x (min ea eb) m - al y (min ea eb) m = al (x - y) (min ea eb) m := by unfold al; rw [Int.sub_mul]
 rw [e, zT]
theorem zcp (n : Nat) (e m : Int) : al (n : Int) e m = ((n * 2 ^ (e - m).toNat : Nat) : Int) := by
 unfold al
 rw [Int.natCast_mul, Int.natCast_pow]; rfl
theorem zdD {s : Bool} {e : Int} (h : Dy s [] e) : s = false ∧ e = 0 := h.none rfl
theorem zf3 : Ev (fun k => z3.f k false [] 0 false [] 0) 0 := by
 have hd : Dy false [] 0 := ⟨zaV, fun _ => ⟨rfl, rfl⟩, fun h => absurd rfl h⟩
 have hm : My false [] 0 := ⟨hd, by simp, by omega, by omega⟩
 have ht := zdd hm
 have et : top (sv false (V [])) 0 = 0 := rfl
 rw [et] at ht
 have hn := zbO zaV (by simp : ([] : List Int).length ≤ 4096)
 have hs := zcf zaV (by simp : ([] : List Int).length ≤ 4096) 0
 have es : za7 (V []) 0 = ([], false, 0) := rfl
 rw [es] at hs
 have hc := zcL zaV zaV (by simp) (by simp)
 have ec : zA (V []) (V []) = 0 := rfl
 rw [ec] at hc
 have w0 : wrap64 (((bl (V []) : Nat) : Int) - ((bl (V []) : Nat) : Int)) = 0 := by rw [Int.sub_self, zar (by omega) (by omega)]
 have w1 : wrap64 (-0) = 0 := by rw [Int.neg_zero, zar (by omega) (by omega)]
 unfold z3.f
 refine Ev.bind ht ?_
 (repeat (first | with_reducible refine ep ?_ | with_reducible refine en ?_))
 refine Ev.bind ht ?_
 (repeat (first | with_reducible refine ep ?_ | with_reducible refine en ?_))
 refine Ev.bind ht ?_
 (repeat (first | with_reducible refine ep ?_ | with_reducible refine en ?_))
 refine Ev.bind ht ?_
 (repeat (first | with_reducible refine ep ?_ | with_reducible refine en ?_))
 refine Ev.bind hn ?_
 (repeat (first | with_reducible refine ep ?_ | with_reducible refine en ?_))
 refine Ev.bind hn ?_
 (repeat (first | with_reducible refine ep ?_ | with_reducible refine en ?_))
 rw [w0, w1]
 (repeat (first | with_reducible refine ep ?_ | with_reducible refine en ?_))
 refine Ev.bind hs ?_
 (repeat (first | with_reducible refine ep ?_ | with_reducible refine en ?_))
 refine zf ?_
 simp only [z3.j1]
 refine Ev.bind hc ?_
 (repeat (first | with_reducible refine ep ?_ | with_reducible refine en ?_))
 exact Ev.now _
theorem zdQ (z e m : Int) : al (-z) e m = -(al z e m) := by unfold al; rw [Int.neg_mul]
theorem zfL (x ea y eb : Int) : zj (-x) ea (-y) eb = -(zj x ea y eb) := by
 unfold zj
 rw [zdQ, zdQ, ← Int.sign_neg]
 congr 1
 omega
theorem zfN (s : Bool) (x y : Nat) (ea eb : Int) (hx : x ≠ 0) : (sv s x).sign * zj (x : Int) ea (y : Int) eb = zj (sv s x) ea (sv s y) eb := by
 rw [zaS hx]
 cases s
 ·simp [sv]
 ·simp only [sv, if_true]
  rw [zfL]
  omega
theorem zfM (za ea zb eb : Int) : zj za ea zb eb = -1 ∨ zj za ea zb eb = 0 ∨ zj za ea zb eb = 1 := by
 unfold zj
 rcases zaz (al za ea (min ea eb) - al zb eb (min ea eb)) with ⟨_, h⟩ | ⟨_, h⟩ | ⟨_, h⟩
 ·exact .inl h
 ·exact .inr (.inl h)
 ·exact .inr (.inr h)
theorem zct (n : Nat) (h : n < 18446744073709551616) : (BitVec.ofInt 64 (n : Int)).toNat = n := by
 rw [BitVec.ofInt_natCast, BitVec.toNat_ofNat]; exact Nat.mod_eq_of_lt (by omega)
theorem zez (a b : Nat) (ha : a < 18446744073709551616) (hb : b < 18446744073709551616) : Go.bits .or .u64 (a : Int) (b : Int) = ((a ||| b : Nat) : Int) := by
 show IntKind.u64.wrap ((BitVec.ofInt 64 (a : Int) ||| BitVec.ofInt 64 (b : Int)).toNat : Int) = _
 have hx : a ||| b < 2 ^ 64 := Nat.or_lt_two_pow (by omega) (by omega)
 rw [BitVec.toNat_or, zct a ha, zct b hb, zbT]
 omega
theorem zfv (a b : Nat) (ha : a < 18446744073709551616) (hb : b < 18446744073709551616) : Go.bits .andNot .u64 (a : Int) (b : Int) = ((a &&& (18446744073709551616 - 1 - b) : Nat) : Int) := by
 show IntKind.u64.wrap ((BitVec.ofInt 64 (a : Int) &&& ~~~(BitVec.ofInt 64 (b : Int))).toNat : Int) = _
 have hx : a &&& (18446744073709551616 - 1 - b) < 2 ^ 64 := Nat.and_lt_two_pow _ (by omega)
 rw [BitVec.toNat_and, BitVec.toNat_not, zct a ha, zct b hb, zbT]
 have e : 2 ^ 64 - 1 - b = 18446744073709551616 - 1 - b := by omega
 rw [e]
 omega
theorem zfw (w k : Nat) (hk : k ≤ 63) (hw : w < 2 ^ (k + 1)) : Go.bits .andNot .u64 (w : Int) ((2 ^ k : Nat) : Int) = ((w % 2 ^ k : Nat) : Int) := by
 have h1 : 2 ^ k ≤ 2 ^ 63 := Nat.pow_le_pow_right (by omega) hk
 have h2 : 2 ^ (k + 1) ≤ 2 ^ 64 := Nat.pow_le_pow_right (by omega) (by omega)
 rw [zfv w _ (by omega) (by omega)]
 congr 1
 apply Nat.eq_of_testBit_eq
 intro i
 have e : 18446744073709551616 - 1 - 2 ^ k = 2 ^ 64 - (2 ^ k + 1) := by omega
 rw [Nat.testBit_and, Nat.testBit_mod_two_pow, e, Nat.testBit_two_pow_sub_succ (by omega), Nat.testBit_two_pow]
 rcases Nat.lt_trichotomy i k with h | h | h
 ·have h3 : i < 64 := by omega
  have h4 : ¬ k = i := by omega
  simp [h, h3, h4]
 ·subst h; simp
 ·have h3 : w.testBit i = false := Nat.testBit_lt_two_pow (Nat.lt_of_lt_of_le hw (Nat.pow_le_pow_right (by omega) (by omega)))
  have h4 : ¬ i < k := by omega
  simp [h3, h4]
def isF (f : Int) : Prop := f = 1 ∨ f = 2
def fb (f : Int) : Nat := if f = 1 then 23 else 52
def mo (f : Int) : Nat := if f = 1 then 255 else 2047
def sk (f : Int) : Nat := if f = 1 then 31 else 63
def sg (f : Int) : Nat := if f = 1 then 2147483648 else 9223372036854775808
theorem zhm {f : Int} (h : isF f) : zbr.f f = some ((fb f : Int), (mo f : Int), (sg f : Int), true) := by
 rcases h with rfl | rfl <;> rfl
theorem zhl {f : Int} (h : ¬ isF f) : zbr.f f = some (0, 0, 0, false) := by
 unfold zbr.f
 rw [if_neg (fun e => h (.inl e)), if_neg (fun e => h (.inr e))]
theorem zhN {f : Int} (h : ¬ isF f) (l : List Int) : Ev (fun k => zN.f k f l) (0, 0, 0, 4) := by
 unfold zN.f
 refine zh (zhl h) ?_
 (repeat (first | with_reducible refine ep ?_ | with_reducible refine en ?_))
 exact Ev.now _
theorem zgy {f : Int} (h : isF f) : Go.bits .or .u64 (sg f : Int) (IntKind.u64.wrap ((sg f : Int) - 1)) = ((2 * sg f - 1 : Nat) : Int) := by
 rcases h with rfl | rfl
 ·have e : IntKind.u64.wrap (((sg 1 : Nat) : Int) - 1) = ((2147483647 : Nat) : Int) := by rw [zbT]; rfl
  rw [e, zez _ _ (by decide) (by decide)]; rfl
 ·have e : IntKind.u64.wrap (((sg 2 : Nat) : Int) - 1) = ((9223372036854775807 : Nat) : Int) := by rw [zbT]; rfl
  rw [e, zez _ _ (by decide) (by decide)]; rfl
theorem zdu {f : Int} (h : isF f) : 0 < sg f ∧ 2 * sg f ≤ 18446744073709551616 := by rcases h with rfl | rfl <;> decide
theorem zhk {f : Int} (h : isF f) : sg f = 2 ^ sk f := by rcases h with rfl | rfl <;> decide
theorem zhr {f : Int} (h : isF f) : sk f ≤ 63 := by rcases h with rfl | rfl <;> decide
def zaw (f : Int) (w : Nat) : Int := if w < 2 * sg f then 0 else 6
theorem zfk {f : Int} (h : isF f) (w : Nat) : Ev (fun k => zN.f k f [(w : Int)]) ((fb f : Int), (mo f : Int), (sg f : Int), zaw f w) := by
 have hp := zdu h
 unfold zN.f zaw
 have e1 : wrap64 (0 + 1) = 1 := by rw [zar (by omega) (by omega)]; rfl
 have el : (([(w : Int)] : List Int).length : Int) = 1 := rfl
 have er : rd [(w : Int)] 0 = (w : Int) := rfl
 refine zh (zhm h) ?_
 (repeat (first | with_reducible refine ep ?_ | with_reducible refine en ?_))
 refine zf ?_
 simp only [zN.l0, el, e1, er, zgy h]
 (repeat (first | with_reducible refine ep ?_ | with_reducible refine en ?_))
 by_cases c : w < 2 * sg f
 ·rw [if_pos c]
  (repeat (first | with_reducible refine ep ?_ | with_reducible refine en ?_))
  refine zf ?_
  simp only [zN.l0, el]
  (repeat (first | with_reducible refine ep ?_ | with_reducible refine en ?_))
  exact Ev.now _
 ·rw [if_neg c]
  (repeat (first | with_reducible refine ep ?_ | with_reducible refine en ?_))
  exact Ev.now _
theorem zhp {f : Int} (h : isF f) : shl .u64 ((mo f : Nat) : Int) ((fb f : Nat) : Int) = ((mo f * 2 ^ fb f : Nat) : Int) := by
 rcases h with rfl | rfl <;> decide
theorem zge {f : Int} (h : isF f) : zbs.f (fb f : Int) (mo f : Int) (sg f : Int) = some ((mo f * 2 ^ fb f : Nat) : Int) := by
 unfold zbs.f
 have hm : mo f < 10000 := by rcases h with rfl | rfl <;> decide
 rw [if_pos (by omega), u64 (by omega) (by omega), zhp h]
def cls (f : Int) (w : Nat) : Int :=
 if w % sg f = 0 then 1 else if w % sg f < 2 ^ fb f then 2 else if w % sg f < mo f * 2 ^ fb f then 3 else if w % sg f = mo f * 2 ^ fb f then 4 else 5
theorem zhq {f : Int} (h : isF f) {w : Nat} (hw : w < 2 * sg f) : Go.bits .andNot .u64 (w : Int) (sg f : Int) = ((w % sg f : Nat) : Int) := by
 rw [zhk h] at hw ⊢
 exact zfw w (sk f) (zhr h) (by rw [Nat.pow_succ, Nat.mul_comm]; exact hw)
theorem zey {f : Int} (h : isF f) : shl .u64 1 ((fb f : Nat) : Int) = ((2 ^ fb f : Nat) : Int) := by rcases h with rfl | rfl <;> decide
theorem zfJ {f : Int} (h : isF f) {w : Nat} (hw : w < 2 * sg f) : zbb.f (fb f : Int) (mo f : Int) (sg f : Int) (w : Int) = some (cls f w) := by
 unfold zbb.f cls
 rw [zhq h hw, zey h]
 generalize w % sg f = z
 by_cases c1 : z = 0
 ·rw [if_pos (by omega), if_pos c1]
 rw [if_neg (by omega), if_neg c1, if_pos (by omega)]
 by_cases c2 : z < 2 ^ fb f
 ·rw [if_pos (by omega), if_pos c2]
 rw [if_neg (by omega), if_neg c2, zge h, Option.bind_some]
 by_cases c3 : z < mo f * 2 ^ fb f
 ·rw [if_pos (by omega), if_pos c3]
 rw [if_neg (by omega), if_neg c3, Option.bind_some]
 by_cases c4 : z = mo f * 2 ^ fb f
 ·rw [if_pos (by omega), if_pos c4]
 ·rw [if_neg (by omega), if_neg c4]
theorem zfj {f : Int} (h : isF f) {w : Nat} (hw : w < 2 * sg f) : Ev (fun k => zbq.f k f (w : Int)) (cls f w, 0) := by
 have ho := zfk h w
 unfold zaw at ho
 rw [if_pos hw] at ho
 unfold zbq.f
 refine Ev.bind ho ?_
 (repeat (first | with_reducible refine ep ?_ | with_reducible refine en ?_))
 refine zh (zfJ h hw) ?_
 (repeat (first | with_reducible refine ep ?_ | with_reducible refine en ?_))
 exact Ev.now _
def zfi (f : Int) (w : Nat) : Bool := decide (sg f ≤ w)
def zaA (f : Int) (w : Nat) : Nat := w % sg f / 2 ^ fb f
def zba (f : Int) (w : Nat) : Nat := w % sg f % 2 ^ fb f
theorem zf5 {f : Int} (h : isF f) : fb f ≤ 52 := by rcases h with rfl | rfl <;> decide
theorem zhj {f : Int} (h : isF f) : sg f = 2 ^ fb f * (mo f + 1) := by rcases h with rfl | rfl <;> decide
theorem zgv {f : Int} (h : isF f) : mo f ≤ 2047 := by rcases h with rfl | rfl <;> decide
def lo (f : Int) : Int := if f = 1 then -149 else -1074
theorem zgu {f : Int} (h : isF f) : 255 ≤ mo f := by rcases h with rfl | rfl <;> decide
theorem zhK {a b : Int} (h1 : -100000000000 ≤ a) (h2 : a ≤ 100000000000) (h3 : -100000000000 ≤ b) (h4 : b ≤ 100000000000) : wrap64 (a + b) = a + b := by unfold wrap64; omega
instance (f : Int) : Decidable (isF f) := inferInstanceAs (Decidable (f = 1 ∨ f = 2))
theorem zdp (f : Int) : za1.f f = some (decide (isF f)) := by
 unfold za1.f isF
 by_cases h : f = 1
 ·rw [if_pos h]; simp [h]
 ·rw [if_neg h]; simp [h]
def isM (m : Int) : Prop := 1 ≤ m ∧ m ≤ 5
instance (m : Int) : Decidable (isM m) := inferInstanceAs (Decidable (1 ≤ m ∧ m ≤ 5))
theorem zeF {f : Int} (h : isF f) {w : Nat} (hw : w < 18446744073709551616) : zbh.f f (w : Int) = some (zaw f w) := by
 unfold zbh.f zaw
 rw [zdp, decide_eq_true h, Option.bind_some, if_neg (by simp)]
 rcases h with rfl | rfl
 ·rw [if_pos rfl]
  by_cases c : w < 2 * sg 1
  ·rw [if_neg (by simp [sg] at c; omega), if_pos c]
  ·rw [if_pos (by simp [sg] at c; omega), if_neg c]
 ·rw [if_neg (by omega), if_pos (by simp [sg]; omega)]
theorem zgX {f : Int} (h : isF f) : zbF.f f = some (sg f : Int) := by rcases h with rfl | rfl <;> rfl
theorem zeE {f : Int} (h : isF f) : za0.f f = some (fb f : Int) := by rcases h with rfl | rfl <;> rfl
theorem zgV {f : Int} (h : isF f) : zbE.f f = some (mo f : Int) := by rcases h with rfl | rfl <;> rfl
theorem zgU {f : Int} (h : isF f) : zb5.f f = some (lo f) := by rcases h with rfl | rfl <;> rfl
theorem zfg {f : Int} (h : isF f) (w : Nat) : zaA f w ≤ mo f := by
 have hz : w % sg f < sg f := Nat.mod_lt _ (zdu h).1
 have : zaA f w < mo f + 1 := Nat.div_lt_of_lt_mul (by rw [← zhj h]; exact hz)
 omega
theorem zhL (f : Int) (w : Nat) : zba f w < 2 ^ fb f := Nat.mod_lt _ (zt _)
theorem zhJ (f : Int) (w : Nat) : w % sg f = zaA f w * 2 ^ fb f + zba f w := by
 unfold zaA zba
 have := Nat.div_add_mod (w % sg f) (2 ^ fb f)
 rw [Nat.mul_comm] at this
 exact this.symm
theorem zgY {f : Int} (h : isF f) (w : Nat) : zbG.f f (w : Int) = some (zfi f w, (zaA f w : Int), (zba f w : Int)) := by
 have hp := zdu h
 have hpp := zt (fb f)
 have hm := zgv h
 have hx := zfg h w
 have h52 := zf5 h
 unfold zbG.f
 rw [zgX h, Option.bind_some, Option.bind_some, if_neg (by omega), zeE h, Option.bind_some, if_pos (by omega), zey h, if_neg (by omega), Option.bind_some, if_pos (by omega), ze6, ze6, zbR _ _ (by show fb f ≤ 64; omega)]
 have e : wrap64 ((w % sg f / 2 ^ fb f : Nat) : Int) = (zaA f w : Int) := by
  show wrap64 ((zaA f w : Nat) : Int) = _
  exact zar (by omega) (by omega)
 rw [e]
 have e2 : decide ((w : Int) ≥ (sg f : Int)) = zfi f w := decide_eq_decide.2 (by omega)
 rw [e2]
 rfl
theorem zd1 {f : Int} (h : isF f) (w : Nat) : cls f w = if zaA f w = 0 then (if zba f w = 0 then 1 else 2) else if zaA f w < mo f then 3 else if zba f w = 0 then 4 else 5 := by
 have h1 := zhJ f w
 have h2 := zhL f w
 have h3 := zfg h w
 have hpp := zt (fb f)
 have hm := zgu h
 unfold cls
 rw [h1]
 generalize zba f w = r at *
 generalize zaA f w = q at *
 generalize 2 ^ fb f = p at *
 by_cases c : q = 0
 ·subst c
  simp only [Nat.zero_mul, Nat.zero_add, if_true]
  by_cases c2 : r = 0
  ·simp [c2]
  ·rw [if_neg c2, if_pos h2, if_neg c2]
 ·have h4 : p ≤ q * p := Nat.le_mul_of_pos_left _ (by omega)
  rw [if_neg (by omega), if_neg (by omega), if_neg c]
  by_cases c2 : q < mo f
  ·have h5 : (q + 1) * p ≤ mo f * p := Nat.mul_le_mul_right _ c2
   rw [Nat.add_mul, Nat.one_mul] at h5
   rw [if_pos (by omega), if_pos c2]
  ·have h5 : q = mo f := by omega
   rw [h5, if_neg (by omega), if_neg (Nat.lt_irrefl _)]
   by_cases c3 : r = 0
   ·rw [if_pos (by omega), if_pos c3]
   ·rw [if_neg (by omega), if_neg c3]
theorem zgS {f : Int} (h : isF f) (w : Nat) : zbD.f f (w : Int) = some (cls f w) := by
 unfold zbD.f
 rw [zgY h, Option.bind_some, zd1 h, zgV h]
 generalize zba f w = r
 generalize zaA f w = q
 generalize mo f = m
 simp only [Option.bind_some]
 by_cases c : q = 0
 ·rw [if_pos (by omega), if_pos c]
  by_cases c2 : r = 0
  ·rw [if_pos (by omega), if_pos c2]
  ·rw [if_neg (by omega), if_pos (by omega), if_neg c2]
 ·rw [if_neg (by omega), if_neg (by omega), if_neg c]
  by_cases c2 : q < m
  ·rw [if_pos (by omega), if_pos c2]
  ·rw [if_neg (by omega), if_neg c2]
   by_cases c3 : r = 0
   ·rw [if_pos (by omega), if_pos c3]
   ·rw [if_neg (by omega), if_neg c3]
def mz (z e : Int) : Int := sv (mk z e).1 (V (mk z e).2.1)
def me (z e : Int) : Int := (mk z e).2.2
theorem zbN (e : Int) : mz 0 e = 0 := rfl
theorem zhv (z : Int) : sv (decide (z < 0)) z.natAbs = z := by
 unfold sv
 by_cases h : z < 0
 ·rw [decide_eq_true h, if_pos rfl]; omega
 ·rw [decide_eq_false h, if_neg (by simp)]; omega
theorem zbo {z : Int} (h : z ≠ 0) (e : Int) : ∃ j : Nat, z = mz z e * 2 ^ j ∧ me z e = e + (j : Int) ∧ mz z e ≠ 0 ∧ bl (mz z e).natAbs + j = bl z.natAbs := by
 have hn : z.natAbs ≠ 0 := by omega
 have hw := zcG hn
 obtain ⟨q, hq⟩ := za4 hn
 have hd : z.natAbs / 2 ^ lw z.natAbs = 2 * q + 1 := by
  have : z.natAbs / 2 ^ lw z.natAbs = 2 ^ lw z.natAbs * (2 * q + 1) / 2 ^ lw z.natAbs := by rw [← hq]
  rw [this, Nat.mul_div_cancel_left _ (zt _)]
 have hm : mz z e = sv (decide (z < 0)) (z.natAbs / 2 ^ lw z.natAbs) := by
  unfold mz mk; rw [if_neg h]; show sv _ (V (D _)) = _; rw [V_D]
 have he : me z e = e + (lw z.natAbs : Nat) := by unfold me mk; rw [if_neg h]
 refine ⟨lw z.natAbs, ?_, he, ?_, ?_⟩
 ·rw [hm, hd]
  have h1 : sv (decide (z < 0)) (2 * q + 1) * 2 ^ lw z.natAbs = sv (decide (z < 0)) ((2 * q + 1) * 2 ^ lw z.natAbs) := by
   unfold sv
   split
   ·rw [Int.neg_mul, Int.natCast_mul, Int.natCast_pow]; rfl
   ·rw [Int.natCast_mul, Int.natCast_pow]; rfl
  rw [h1, Nat.mul_comm, ← hq, zhv]
 ·rw [hm, hd]; intro h2; have := za8.1 h2; omega
 ·rw [hm, zaR, zdV]; omega
theorem zcd (z e : Int) : (mk z e).2.1.length ≤ (bl z.natAbs + 31) / 32 := by
 rw [zgr]
 refine zak ?_
 rw [zdV]; omega
theorem zaF (z e : Int) : me z e = 0 ∧ z = 0 ∨ e ≤ me z e ∧ me z e ≤ e + (bl z.natAbs : Nat) := by
 by_cases h : z = 0
 ·exact .inl ⟨by rw [h]; rfl, h⟩
 ·obtain ⟨j, _, h2, _, h4⟩ := zbo h e
  exact .inr (by omega)
theorem zdP {z : Int} (h : z ≠ 0) {e m : Int} (hm : m ≤ e) : al (mz z e) (me z e) m = al z e m := by
 obtain ⟨j, h1, h2, _, _⟩ := zbo h e
 rw [h2]
 have h3 : al z e m = al (mz z e * 2 ^ j) e m := by rw [← h1]
 rw [h3]
 unfold al
 rw [Int.mul_assoc, ← Int.pow_add]
 congr 2
 omega
theorem zdJ (za ea zb eb : Int) : zw za ea zb eb = zw zb eb za ea := by
 unfold zw; rw [Int.add_comm, Int.min_comm]
theorem zc3 (za ea zb eb : Int) : zw (mz za ea) (me za ea) zb eb = zw za ea zb eb := by
 by_cases h : za = 0
 ·subst h; rw [zbN, zcm, zcm]
 ·have hb := zaF za ea
  have h1 : ea ≤ me za ea := by omega
  rw [← zb1 (za := mz za ea) (m := min ea eb) (by omega) (by omega), zdP h (by omega)]
  rfl
theorem zdK (za ea zb eb : Int) : zw za ea (mz zb eb) (me zb eb) = zw za ea zb eb := by
 rw [zdJ, zc3, zdJ]
theorem zd4 (ea zb eb : Int) : zj 0 ea zb eb = -zb.sign := by
 unfold zj
 rw [zb2, Int.zero_sub, Int.sign_neg, zT]
theorem zd2 (za ea zb eb : Int) : zj za ea zb eb = -zj zb eb za ea := by
 unfold zj
 rw [← Int.sign_neg, Int.neg_sub, Int.min_comm]
theorem zc7 (za ea zb eb : Int) : zj (mz za ea) (me za ea) zb eb = zj za ea zb eb := by
 by_cases h : za = 0
 ·subst h; rw [zbN, zd4, zd4]
 ·have hb := zaF za ea
  have h1 : ea ≤ me za ea := by omega
  rw [← zc6 (za := mz za ea) (m := min ea eb) (by omega) (by omega), zdP h (by omega)]
  rfl
theorem zd3 (za ea zb eb : Int) : zj za ea (mz zb eb) (me zb eb) = zj za ea zb eb := by
 rw [zd2, zc7, ← zd2]
structure Rg (z e : Int) : Prop where
 b : bl z.natAbs ≤ 10000000
 lo : -40000000 ≤ e
 hi : e ≤ 40000000
theorem zeQ {za ea zb eb : Int} (ha : Rg za ea) (hb : Rg zb eb) : zcl (mk za ea).2.1 (me za ea) (mk zb eb).2.1 (me zb eb) := by
 have a1 := zcd za ea
 have b1 := zcd zb eb
 have a2 := zaF za ea
 have b2 := zaF zb eb
 obtain ⟨h1, h2, h3⟩ := ha
 obtain ⟨h4, h5, h6⟩ := hb
 refine ⟨by omega, by omega, by omega, by omega⟩
theorem zgR {za ea zb eb : Int} (ha : Rg za ea) (hb : Rg zb eb) : Ev (fun k => zY.f k (mk za ea).1 (mk za ea).2.1 (mk za ea).2.2 (mk zb eb).1 (mk zb eb).2.1 (mk zb eb).2.2) (zw za ea zb eb) := by
 refine zg (zeL (zaB za ea) (zaB zb eb) (zeQ ha hb)) ?_
 show zw (mz za ea) (me za ea) (mz zb eb) (me zb eb) = _
 rw [zc3, zdK]
theorem zgT {za ea zb eb : Int} (ha : Rg za ea) (hb : Rg zb eb) : Ev (fun k => zbf.f k (mk za ea).1 (mk za ea).2.1 (mk za ea).2.2 (mk zb eb).1 (mk zb eb).2.1 (mk zb eb).2.2) (zj za ea zb eb) := by
 refine zg (zg3 (zaB za ea) (zaB zb eb) (zeQ ha hb)) ?_
 show zj (mz za ea) (me za ea) (mz zb eb) (me zb eb) = _
 rw [zc7, zd3]
theorem zcM {za ea zb eb : Int} (ha : Rg za ea) (hb : Rg zb eb) : Ev (fun k => zau.f k (mk za ea).1 (mk za ea).2.1 (mk za ea).2.2 (mk zb eb).1 (mk zb eb).2.1 (mk zb eb).2.2) (mk (za * zb) (ea + eb)) := by
 have a1 := zcd za ea
 have b1 := zcd zb eb
 have a2 := zaF za ea
 have b2 := zaF zb eb
 obtain ⟨h1, h2, h3⟩ := ha
 obtain ⟨h4, h5, h6⟩ := hb
 have e1 : (mk za ea).2.2 = me za ea := rfl
 have e2 : (mk zb eb).2.2 = me zb eb := rfl
 refine zg (zg6 (zaB za ea) (zaB zb eb) (by omega) (by omega) (by omega) (by omega) (by omega) (by omega)) ?_
 show mk (mz za ea * mz zb eb) (me za ea + me zb eb) = _
 by_cases c : za = 0
 ·subst c; rw [zbN, Int.zero_mul, Int.zero_mul]; rfl
 by_cases c2 : zb = 0
 ·subst c2; rw [zbN, Int.mul_zero, Int.mul_zero]; rfl
 obtain ⟨j, p1, p2, _, _⟩ := zbo c ea
 obtain ⟨i, q1, q2, _, _⟩ := zbo c2 eb
 have e3 : za * zb = mz za ea * mz zb eb * 2 ^ (j + i) := by
  conv => lhs; rw [p1, q1]
  rw [Int.pow_add, Int.mul_assoc, Int.mul_assoc]
  congr 1
  rw [Int.mul_left_comm]
 rw [e3, zdl, p2, q2]
 congr 1
 omega
theorem zeo (e : Int) : mk 1 e = (false, [1], e) := by
 unfold mk
 have h : lw (1 : Int).natAbs = 0 := zcb rfl
 have hd : D 1 = [1] := by rw [zbc (by omega)]; simp [zC]
 rw [if_neg (by omega), h]
 show (false, D (1 / 1), e + 0) = (false, ([1] : List Int), e)
 rw [Nat.div_one, hd, Int.add_zero]
theorem zgZ (e : Int) : zbC.f e = some (mk 1 e) := by
 unfold zbC.f
 rw [zeo]
theorem zc5 {f : Int} (h : isF f) (w : Nat) : 1 ≤ cls f w ∧ cls f w ≤ 5 := by
 rw [zd1 h]; split
 ·split <;> omega
 ·split
  ·omega
  ·split <;> omega
theorem zgz {z : Int} (h : z ≠ 0) (e : Int) : ∃ j : Nat, z.natAbs = V (mk z e).2.1 * 2 ^ j ∧ (mk z e).2.2 = e + j ∧ (mk z e).1 = decide (z < 0) ∧ V (mk z e).2.1 ≠ 0 := by
 have hza : z.natAbs ≠ 0 := by omega
 obtain ⟨q, hq⟩ := za4 hza
 have hd : z.natAbs / 2 ^ lw z.natAbs = 2 * q + 1 := by
  have : z.natAbs / 2 ^ lw z.natAbs = 2 ^ lw z.natAbs * (2 * q + 1) / 2 ^ lw z.natAbs := by rw [← hq]
  rw [this, Nat.mul_div_cancel_left _ (zt _)]
 have hm : mk z e = (decide (z < 0), D (z.natAbs / 2 ^ lw z.natAbs), e + (lw z.natAbs : Nat)) := by unfold mk; rw [if_neg h]
 refine ⟨lw z.natAbs, ?_, by rw [hm], by rw [hm], ?_⟩
 ·rw [hm]
  show _ = V (D _) * _
  rw [V_D, hd, Nat.mul_comm]; exact hq
 ·rw [hm]
  show V (D _) ≠ 0
  rw [V_D, hd]; omega
theorem zdX (x y : Nat) : bl (x * y) ≤ bl x + bl y := zaC (by rw [Nat.pow_add]; exact Nat.mul_lt_mul'' (zax x) (zax y))
theorem zeD {f : Int} (h : isF f) (w : Nat) : zbg.f f (w : Int) = some (decide (cls f w < 4)) := by
 have hb := zc5 h w
 unfold zbg.f
 rw [zgS h w, Option.bind_some]
 by_cases c : cls f w = 4
 ·rw [if_neg (fun h => h c)]
  rw [decide_eq_false (by omega)]
 ·rw [if_pos c]
  congr 1
  exact decide_eq_decide.2 (by omega)
open Go.RowKit Go.Proofs.YtioialhbjmnndaaGreatDoor.Eng
theorem zer (A Bl : List Int) (i : Nat) (x : Int) (hx : 0 ≤ x ∧ x < 4294967296) (hB : Dg Bl) (hl : A.length < 1000000000) (hlb : Bl.length < 1000000000) (hi : i < A.length) (res : List Int) : ∀ (b done r pb : List Int) (c : Int), Bl = pb ++ b → done.length = i + pb.length → b.length < r.length → Dg r → 0 ≤ c ∧ c < 4294967296 →
  Ev (fun k => zy.l0 k Bl (done ++ zD x b r c) A A.length ((i + 1 : Nat) : Int)) res →
  Ev (fun k => zy.l1 k Bl (done ++ r) i x c A A.length i Bl Bl.length pb.length) res
 | [], done, r, pb, c, he, hd, hr, hg, hc, H => by
  obtain ⟨y, r, rfl⟩ : ∃ y r', r = y :: r' := by
   cases r with
   | nil => simp at hr
   | cons y r' => exact ⟨y, r', rfl⟩
  have hlen : Bl.length = pb.length := by rw [he]; simp
  refine zf ?_
  have e : wrap64 ((i : Int) + (Bl.length : Int)) = ((i + Bl.length : Nat) : Int) := by unfold wrap64; omega
  simp only [zy.l1, e, zB (n := i) (by omega)]
  clear e
  refine ze (by omega) (zd (by omega) (zd (by simp; omega) ?_))
  have hs : (done ++ y :: r).set (((i + Bl.length : Nat) : Int)).toNat (c % 4294967296) = done ++ zD x [] (y :: r) c := by
   rw [zbp (by omega)]; simp [zD]; omega
  rw [hs]; exact H
 | y :: b, done, r, pb, c, he, hd, hr, hg, hc, H => by
  obtain ⟨o, r, rfl⟩ : ∃ y r', r = y :: r' := by
   cases r with
   | nil => simp at hr
   | cons y r' => exact ⟨y, r', rfl⟩
  have hlen : Bl.length = pb.length + 1 + b.length := by rw [he]; simp; omega
  have hy : 0 ≤ y ∧ y < 4294967296 := by rw [he] at hB; exact hB.right.head
  have ho := hg.head
  have hp := zcJ hx hy
  refine zf ?_
  have e : wrap64 ((i : Int) + (pb.length : Int)) = ((done.length : Nat) : Int) := by unfold wrap64; omega
  simp only [zy.l1, e, zB (n := pb.length) (by omega)]
  clear e
  refine zd (by omega) (zd (by omega) (zd (by omega) (zd (by omega) (zd (by simp; omega) (zd (by omega) (zd (by simp; omega) ?_))))))
  have h1 : rd Bl (pb.length : Int) = y := by rw [he]; exact z6 rfl
  have h2 : rd (done ++ o :: r) (done.length : Int) = o := z6 rfl
  rw [h1, h2, zbp rfl, u64 hx.1 (by omega), u64 hy.1 (by omega), u64 ho.1 (by omega), u64 (n := x * y) hp.1 (by omega), u64 (n := x * y + o) (by omega) (by omega), u64 (n := x * y + o + c) (by omega) (by omega)]
  have := zer A Bl i x hx hB hl hlb hi res b (done ++ [(x * y + o + c) % 4294967296]) r (pb ++ [y]) ((x * y + o + c) / 4294967296) (by rw [he]; simp) (by simp [hd]; omega) (by simpa using hr) hg.tail (by omega) (by simpa [zD] using H)
  simpa using this
theorem zeq (A Bl : List Int) (hA : Dg A) (hB : Dg Bl) (hl : A.length < 1000000000) (hlb : Bl.length < 1000000000) : ∀ (a done r pa : List Int), A = pa ++ a → done.length = pa.length → Dg done → Dg r → r.length = Bl.length + a.length → r.drop Bl.length = List.replicate a.length 0 →
  Ev (fun k => zy.l0 k Bl (done ++ r) A A.length done.length) (D (V (done ++ zaG a Bl r)))
 | [], done, r, pa, he, hd, hg, hr, hrl, hz => by
  have hlen : A.length = done.length := by rw [he, hd]; simp
  refine zf ?_
  simp only [zy.l0]
  refine ze (by omega) ?_
  refine Ev.bind (zcg (hg.app hr) (by simp; simp at hrl; omega)) ?_
  exact Ev.now _
 | x :: a, done, r, pa, he, hd, hg, hr, hrl, hz => by
  have hlen : A.length = done.length + 1 + a.length := by rw [he, hd]; simp; omega
  have hx : 0 ≤ x ∧ x < 4294967296 := by rw [he] at hA; exact hA.right.head
  have hrr := zdt hx Bl r 0 a.length hB hr (by omega) (by simpa using hz)
  refine zf ?_
  simp only [zy.l0]
  refine zd (by omega) (zd (by omega) (zd (by omega) ?_))
  have h1 : rd A (done.length : Int) = x := by rw [he]; exact z6 (by omega)
  rw [h1]
  refine zer A Bl done.length x hx hB hl hlb (by omega) _ Bl done r [] 0 rfl rfl (by simp at hrl; omega) hr (by omega) ?_
  obtain ⟨r0, r', e⟩ : ∃ r0 r', zD x Bl r 0 = r0 :: r' := by
   cases h : zD x Bl r 0 with
   | nil =>
    have hl := hrr.2.2.2
    rw [h] at hl
    simp at hrl hl; omega
   | cons r0 r' => exact ⟨r0, r', rfl⟩
  rw [e] at hrr
  have := zeq A Bl hA hB hl hlb a (done ++ [r0]) r' (pa ++ [x]) (by rw [he]; simp) (by simp [hd]) (hg.app (Dg.cons hrr.2.1.head.1 hrr.2.1.head.2 Dg.nil)) hrr.2.1.tail (by have := hrr.2.2.2; simp at this hrl; omega) (by simpa using hrr.2.2.1)
  rw [List.length_append, List.length_singleton, List.append_assoc] at this
  have e2 : done ++ zaG (x :: a) Bl r = done ++ [r0] ++ zaG a Bl r' := by simp [zaG, e]
  rw [e, e2]; simpa using this
theorem zgD {a b : List Int} (ha : Dg a) (hb : Dg b) (la : a.length < 1000000000) (lb : b.length < 1000000000) : Ev (fun k => zy.f k a b) (D (V a * V b)) := by
 unfold zy.f
 have e : wrap64 ((a.length : Int) + (b.length : Int)) = ((a.length + b.length : Nat) : Int) := by unfold wrap64; omega
 simp only [e]
 clear e
 refine zd (by omega) (zd (by omega) ?_)
 have := zeq a b ha hb la lb a [] (List.replicate (a.length + b.length) 0) [] rfl rfl Dg.nil (Dg.zeros _) (by simp; omega) (by simp)
 refine zg this ?_
 have h2 := zep a b (List.replicate (a.length + b.length) 0) ha hb (Dg.zeros _) (by simp)
 simp [h2.1, zc2]
theorem zgB {a b : List Int} (ha : Nm a) (hb : Nm b) (la : a.length ≤ 4096) (lb : b.length ≤ 4096) : Ev (fun k => zbP.f k a b) (zao (V a * V b)) := by
 have h1 : may a = true := zae.2 ⟨la, ha⟩
 have h2 : may b = true := zae.2 ⟨lb, hb⟩
 have tail : Ev (fun k => (zy.f k a b).bind fun t => (z4.f t).bind fun bt => some (bt.1, bt.2)) (zao (V a * V b)) := by
  refine Ev.bind (zgD ha.dg hb.dg (by omega) (by omega)) ?_
  exact zh (zeu _) (Ev.now _)
 unfold zbP.f
 refine Ev.bind (zcq ha.dg hb.dg (by omega) (by omega)) ?_
 refine ze (by simp [h1, h2]) ?_
 by_cases c1 : a.length > 0
 ·refine zd (by omega) ?_
  by_cases c2 : b.length > 0
  ·refine zd (by omega) ?_
   have e : wrap64 (wrap64 ((a.length : Int) + (b.length : Int)) - 1) = ((a.length + b.length - 1 : Nat) : Int) := by unfold wrap64; omega
   rw [e]
   clear e
   by_cases c3 : a.length + b.length - 1 > 4096
   ·refine zd (by omega) (zg (Ev.now _) ?_)
    have p1 := zcX ha (fun e => by subst e; simp at c1)
    have p2 := zcX hb (fun e => by subst e; simp at c2)
    have p3 := Nat.mul_le_mul p1 p2
    rw [← Nat.pow_add] at p3
    have p4 : (D (V a * V b)).length > 4096 := by
     apply Nat.lt_of_not_le
     intro k
     have p5 := zbM (V a * V b)
     have p6 := Nat.pow_lt_pow_iff_right (a := 4294967296) (by omega) |>.1 (Nat.lt_of_le_of_lt p3 p5)
     omega
    unfold zao; rw [if_pos p4]
   ·exact ze (by omega) tail
  ·exact ze (by omega) tail
 ·exact ze (by omega) tail
theorem zfY {sa sb : Bool} {la lb : List Int} {ea eb : Int} (ha : My sa la ea) (hb : My sb lb eb) (hl : bl (V la) + bl (V lb) ≤ 131000) (h1 : -16000000 ≤ ea + eb) (h2 : ea + eb ≤ 16000000) : Ev (fun k => zbj.f k sa la ea sb lb eb) (ok3 (mk (sv sa (V la) * sv sb (V lb)) (ea + eb))) := by
 have a1 := ha.lo
 have a2 := ha.hi
 have b1 := hb.lo
 have b2 := hb.hi
 have hbl := zdX (V la) (V lb)
 have hlen := zak (x := V la * V lb) (k := 4096) (by omega)
 have e : wrap64 (ea + eb) = ea + eb := zhK (by omega) (by omega) (by omega) (by omega)
 have m1 := zgB ha.dy.nm hb.dy.nm ha.len hb.len
 rw [zd0 (by omega)] at m1
 have k1 := zcw (sa != sb) (zu (V la * V lb)) (by omega) (ea + eb)
 rw [V_D, zcH (by omega) (by omega), ← ze2] at k1
 have hne : (decide (¬ sa = sb)) = (sa != sb) := by cases sa <;> cases sb <;> rfl
 unfold zbj.f
 refine Ev.bind (zde ha hb) ?_; try dsimp only
 refine ze (by simp) ?_
 refine Ev.bind (m1) ?_; try dsimp only
 refine ze (by simp) ?_
 rw [e, hne]
 clear e
 refine Ev.bind (k1) ?_; try dsimp only
 exact Ev.now _
theorem zcK {z e : Int} (hb : bl z.natAbs ≤ 131072) (h1 : -16777216 ≤ e) (h2 : e + (bl z.natAbs : Nat) ≤ 16777216) : My (mk z e).1 (mk z e).2.1 (mk z e).2.2 := by
 have a1 := zcd z e
 have a2 := zaF z e
 have e1 : (mk z e).2.2 = me z e := rfl
 exact ⟨zaB z e, by omega, by omega, by omega⟩
theorem zgs (za ea zb eb : Int) : mk (mz za ea * mz zb eb) (me za ea + me zb eb) = mk (za * zb) (ea + eb) := by
 by_cases c : za = 0
 ·subst c; rw [zbN, Int.zero_mul, Int.zero_mul]; rfl
 by_cases c2 : zb = 0
 ·subst c2; rw [zbN, Int.mul_zero, Int.mul_zero]; rfl
 obtain ⟨j, p1, p2, _, _⟩ := zbo c ea
 obtain ⟨i, q1, q2, _, _⟩ := zbo c2 eb
 have e3 : za * zb = mz za ea * mz zb eb * 2 ^ (j + i) := by
  conv => lhs; rw [p1, q1]
  rw [Int.pow_add, Int.mul_assoc, Int.mul_assoc]
  congr 1
  rw [Int.mul_left_comm]
 rw [e3, zdl, p2, q2]
 congr 1
 omega
theorem zdG (z e : Int) : bl (V (mk z e).2.1) ≤ bl z.natAbs := by
 by_cases c : z = 0
 ·subst c; exact Nat.zero_le _
 ·obtain ⟨j, j1, _⟩ := zgz c e
  rw [j1]
  have h := zbw (V (mk z e).2.1) j
  have hp : V (mk z e).2.1 ≤ V (mk z e).2.1 * 2 ^ j := Nat.le_mul_of_pos_right _ (zt j)
  exact zb3 hp
theorem zgO {za ea zb eb : Int} (hb : bl za.natAbs + bl zb.natAbs ≤ 131000) (h1 : -8000000 ≤ ea) (h2 : ea ≤ 7000000) (h3 : -8000000 ≤ eb) (h4 : eb ≤ 7000000) : Ev (fun k => zbj.f k (mk za ea).1 (mk za ea).2.1 (mk za ea).2.2 (mk zb eb).1 (mk zb eb).2.1 (mk zb eb).2.2) (ok3 (mk (za * zb) (ea + eb))) := by
 have a2 := zaF za ea
 have b2 := zaF zb eb
 have a3 := zdG za ea
 have b3 := zdG zb eb
 have e1 : (mk za ea).2.2 = me za ea := rfl
 have e2 : (mk zb eb).2.2 = me zb eb := rfl
 refine zg (zfY (zcK (z := za) (e := ea) (by omega) (by omega) (by omega)) (zcK (z := zb) (e := eb) (by omega) (by omega) (by omega)) (by omega) (by omega) (by omega)) ?_
 show ok3 (mk (mz za ea * mz zb eb) (me za ea + me zb eb)) = _
 rw [zgs]
structure Wn (L H : Int) (s : Bool) (l : List Int) (e : Int) : Prop where
 dy : Dy s l e
 lo : l ≠ [] → L ≤ e
 hi : l ≠ [] → e + (bl (V l) : Nat) ≤ H
structure Wk (L H : Int) : Prop where
 lo : -1000000 ≤ L
 hi : H ≤ 1000000
 sz : H - L ≤ 130000
theorem Wn.bls {L H : Int} {s : Bool} {l : List Int} {e : Int} (h : Wn L H s l e) (k : Wk L H) : bl (V l) ≤ 130000 := by
 by_cases c : l = []
 ·subst c; exact Nat.zero_le _
 ·have h1 := h.lo c
  have h2 := h.hi c
  have h3 := k.sz
  omega
theorem Wn.ex {L H : Int} {s : Bool} {l : List Int} {e : Int} (h : Wn L H s l e) (k : Wk L H) : -1000000 ≤ e ∧ e ≤ 1000000 := by
 by_cases c : l = []
 ·have h1 := (h.dy.none c).2
  omega
 ·have h1 := h.lo c
  have h2 := h.hi c
  have h3 := k.lo
  have h4 := k.hi
  omega
theorem Wn.len {L H : Int} {s : Bool} {l : List Int} {e : Int} (h : Wn L H s l e) (k : Wk L H) : l.length ≤ 4096 := by
 have h1 := h.bls k
 have h2 := h.dy.nm
 unfold Nm at h2
 rw [← h2]
 exact zak (by omega)
theorem Wn.my {L H : Int} {s : Bool} {l : List Int} {e : Int} (h : Wn L H s l e) (k : Wk L H) : My s l e := by
 have h1 := h.ex k
 exact ⟨h.dy, h.len k, by omega, by omega⟩
theorem zfh {e m : Int} (h1 : -1000000 ≤ e ∧ e ≤ 1000000) (h2 : -1000000 ≤ m ∧ m ≤ 1000000) (h : m ≤ e) : wrap64 (e - m) = ((e - m).toNat : Int) := by unfold wrap64; omega
theorem zhM {n b : Nat} (hn : n ≤ 2000000) (hb : b ≤ 2000000) : wrap64 ((n : Int) + (b : Int)) = ((n + b : Nat) : Int) := by unfold wrap64; omega
theorem zff {la lb : List Int} {sa sb : Bool} {ea : Int} (da : Nm la) (db : Nm lb) (n : Nat) (h1 : -1000000 ≤ ea ∧ ea ≤ 1000000) (hn : bl (V lb) + n ≤ 130000) (ha : bl (V la) ≤ 130000) (hb : bl (V lb) ≤ 130000) (h2 : n ≤ 130000) :
  Ev (fun k => zP.f k lb) (bl (V lb) : Nat) ∧ wrap64 ((n : Int) + ((bl (V lb) : Nat) : Int)) = ((n + bl (V lb) : Nat) : Int) ∧ Ev (fun k => zL.f k lb (n : Int)) (D (V lb * 2 ^ n), false, 0) ∧ Ev (fun k => zaj.f k sb (D (V lb * 2 ^ n)) sa la ea) (ok3 (mk (sv sb (V lb * 2 ^ n) + sv sa (V la)) ea)) := by
 have hu := zbw (V lb) n
 have ll : lb.length ≤ 4096 := by
  have h3 := db
  unfold Nm at h3
  rw [← h3]
  exact zak (by omega)
 have hs := zcf db ll (n : Int)
 rw [zcP (by omega)] at hs
 have j1 := zf1 sb sa (V lb * 2 ^ n) (V la) (e := ea) (by omega) (by omega) (by omega) (by omega)
 have h3 := da
 unfold Nm at h3
 rw [h3] at j1
 exact ⟨zbO db ll, zhM (by omega) (by omega), hs, j1⟩
theorem zf0 {L H : Int} (k : Wk L H) {sa sb : Bool} {la lb : List Int} {ea eb : Int} (ha : Wn L H sa la ea) (hb : Wn L H sb lb eb) : Ev (fun k => zad.f k sa la ea sb lb eb) (ok3 (zw (sv sa (V la)) ea (sv sb (V lb)) eb)) := by
 have xa := ha.ex k
 have xb := hb.ex k
 have ba := ha.bls k
 have bb := hb.bls k
 have lla := ha.len k
 have llb := hb.len k
 have da := ha.dy
 have db := hb.dy
 unfold zad.f
 by_cases c : la = []
 ·subst c
  clear ha hb
  (repeat (first | with_reducible refine ep ?_ | with_reducible refine en ?_))
  refine zh (zdf sb eb (by omega)) ?_
  (repeat (first | with_reducible refine ep ?_ | with_reducible refine en ?_))
  refine zg (Ev.now _) ?_
  rw [zE, zW, zcm, zex db]
 refine ze (fun h => c (zS.1 h)) ?_
 by_cases c2 : lb = []
 ·subst c2
  clear ha hb
  (repeat (first | with_reducible refine ep ?_ | with_reducible refine en ?_))
  refine zh (zdf sa ea (by omega)) ?_
  (repeat (first | with_reducible refine ep ?_ | with_reducible refine en ?_))
  refine zg (Ev.now _) ?_
  rw [zE, zW, zdL, zex da]
 refine ze (fun h => c2 (zS.1 h)) ?_
 have la1 := ha.lo c
 have la2 := ha.hi c
 have lb1 := hb.lo c2
 have lb2 := hb.hi c2
 have ksz := k.sz
 clear ha hb k
 by_cases c3 : ea < eb
 ·have hw := zfh xb xa (by omega)
  have hn : bl (V lb) + (eb - ea).toNat ≤ 130000 := by omega
  have e0 : zw (sv sa (V la)) ea (sv sb (V lb)) eb = mk (sv sb (V lb * 2 ^ (eb - ea).toNat) + sv sa (V la)) ea := by
   rw [← zb1 (m := ea) (by omega) (by omega), zbu, zbu, Int.sub_self, Int.add_comm]
   show mk (_ + sv sa (V la * 2 ^ 0)) ea = _
   rw [Nat.pow_zero, Nat.mul_one]
  rw [e0]
  obtain ⟨hl, hw3, hs, j1⟩ := zff (sa := sa) (sb := sb) (ea := ea) da.nm db.nm (eb - ea).toNat xa hn ba bb (by omega)
  clear e0
  generalize (eb - ea).toNat = n at *
  refine zd c3 ?_
  refine zf ?_
  simp only [zad.j1, hw]
  clear hw
  refine Ev.bind hl ?_
  rw [hw3]
  refine ze (by omega) ?_
  refine Ev.bind hl ?_
  rw [hw3]
  clear hw3
  refine ze (by omega) ?_
  refine Ev.bind hs ?_
  dsimp only
  refine Ev.bind j1 ?_
  exact Ev.now _
 ·have hw := zfh xa xb (by omega)
  have hn : bl (V la) + (ea - eb).toNat ≤ 130000 := by omega
  have e0 : zw (sv sa (V la)) ea (sv sb (V lb)) eb = mk (sv sa (V la * 2 ^ (ea - eb).toNat) + sv sb (V lb)) eb := by
   rw [← zb1 (m := eb) (by omega) (by omega), zbu, zbu, Int.sub_self]
   show mk (_ + sv sb (V lb * 2 ^ 0)) eb = _
   rw [Nat.pow_zero, Nat.mul_one]
  rw [e0]
  obtain ⟨hl, hw3, hs, j1⟩ := zff (sa := sb) (sb := sa) (ea := eb) db.nm da.nm (ea - eb).toNat xb hn bb ba (by omega)
  clear e0
  generalize (ea - eb).toNat = n at *
  refine ze c3 ?_
  refine zf ?_
  simp only [zad.j1, hw]
  clear hw
  refine Ev.bind hl ?_
  rw [hw3]
  refine ze (by omega) ?_
  refine Ev.bind hl ?_
  rw [hw3]
  clear hw3
  refine ze (by omega) ?_
  refine Ev.bind hs ?_
  dsimp only
  refine Ev.bind j1 ?_
  exact Ev.now _
theorem zfW {L H : Int} (k : Wk L H) {sa sb : Bool} {la lb : List Int} {ea eb : Int} (ha : Wn L H sa la ea) (hb : Wn L H sb lb eb) : Ev (fun k => zbi.f k sa la ea sb lb eb) (ok3 (zw (sv sa (V la)) ea (sv sb (V lb)) eb)) := by
 unfold zbi.f
 refine Ev.bind (zde (ha.my k) (hb.my k)) ?_
 refine ze (by simp) ?_
 refine Ev.bind (zf0 k ha hb) ?_
 exact Ev.now _
theorem zf2 {L H : Int} (k : Wk L H) {sa sb : Bool} {la lb : List Int} {ea eb : Int} (ha : Wn L H sa la ea) (hb : Wn L H sb lb eb) (ca : la ≠ []) (cb : lb ≠ []) : Ev (fun k => z3.f k sa la ea sb lb eb) (zj (V la : Int) ea (V lb : Int) eb) := by
 have hma := ha.my k
 have hmb := hb.my k
 have xa := ha.ex k
 have xb := hb.ex k
 have ba := ha.bls k
 have bb := hb.bls k
 have lla := ha.len k
 have llb := hb.len k
 have da := ha.dy
 have db := hb.dy
 have la1 := ha.lo ca
 have la2 := ha.hi ca
 have lb1 := hb.lo cb
 have lb2 := hb.hi cb
 have ksz := k.sz
 clear ha hb k
 have oa := da.odd ca
 have ob := db.odd cb
 have ta := zdd hma
 have tb := zdd hmb
 have va : V la ≠ 0 := by omega
 have vb : V lb ≠ 0 := by omega
 have ea1 : top (sv sa (V la)) ea = ea + ((bl (V la) : Nat) : Int) := by unfold top; rw [if_neg (fun h => va (za8.1 h)), zaR]
 have eb1 : top (sv sb (V lb)) eb = eb + ((bl (V lb) : Nat) : Int) := by unfold top; rw [if_neg (fun h => vb (za8.1 h)), zaR]
 rw [ea1] at ta
 rw [eb1] at tb
 clear ea1 eb1
 have na := zbO da.nm lla
 have nb := zbO db.nm llb
 unfold z3.f
 refine Ev.bind ta ?_
 refine Ev.bind tb ?_
 have hm1 : min ea eb ≤ ea := by omega
 have hm2 : min ea eb ≤ eb := by omega
 have pa := zco (z := (V la : Int)) (e := ea) (m := min ea eb) (by omega) hm1
 have pb := zco (z := (V lb : Int)) (e := eb) (m := min ea eb) (by omega) hm2
 have qa : top (V la : Int) ea = ea + ((bl (V la) : Nat) : Int) := by unfold top; rw [if_neg (by omega)]; rfl
 have qb : top (V lb : Int) eb = eb + ((bl (V lb) : Nat) : Int) := by unfold top; rw [if_neg (by omega)]; rfl
 rw [qa] at pa
 rw [qb] at pb
 have sa1 : (al (V la : Int) ea (min ea eb)).sign = 1 := by rw [zT]; exact Int.sign_eq_one_of_pos (by omega)
 have sb1 : (al (V lb : Int) eb (min ea eb)).sign = 1 := by rw [zT]; exact Int.sign_eq_one_of_pos (by omega)
 by_cases c1 : ea + ((bl (V la) : Nat) : Int) < eb + ((bl (V lb) : Nat) : Int)
 ·refine zd c1 ?_
  refine zg (Ev.now _) ?_
  have hc := zc9 (a := al (V la : Int) ea (min ea eb)) (b := al (V lb : Int) eb (min ea eb)) (by rw [sa1, sb1]) (by rw [sa1]; decide) (by omega)
  rw [sa1, decide_eq_true (by omega : bl (al (V la : Int) ea (min ea eb)).natAbs < bl (al (V lb : Int) eb (min ea eb)).natAbs)] at hc
  unfold zj
  rw [hc]; rfl
 refine ze c1 ?_
 refine Ev.bind ta ?_
 refine Ev.bind tb ?_
 by_cases c2 : ea + ((bl (V la) : Nat) : Int) > eb + ((bl (V lb) : Nat) : Int)
 ·refine zd c2 ?_
  refine zg (Ev.now _) ?_
  have hc := zc9 (a := al (V la : Int) ea (min ea eb)) (b := al (V lb : Int) eb (min ea eb)) (by rw [sa1, sb1]) (by rw [sa1]; decide) (by omega)
  rw [sa1, decide_eq_false (by omega : ¬ bl (al (V la : Int) ea (min ea eb)).natAbs < bl (al (V lb : Int) eb (min ea eb)).natAbs)] at hc
  unfold zj
  rw [hc]; rfl
 refine ze c2 ?_
 refine Ev.bind na ?_
 refine Ev.bind nb ?_
 clear pa pb qa qb sa1 sb1 hm1 hm2
 have ew : wrap64 (((bl (V la) : Nat) : Int) - ((bl (V lb) : Nat) : Int)) = eb - ea := by unfold wrap64; omega
 rw [ew]
 clear ew
 by_cases c3 : eb - ea > 0
 ·obtain ⟨n, hn⟩ := Int.eq_ofNat_of_zero_le (show 0 ≤ eb - ea by omega)
  rw [hn]
  have hu := zbw (V lb) n
  have hs := zcf db.nm llb (n : Int)
  rw [zcP (by omega)] at hs
  have cc := zcL da.nm (zu (V lb * 2 ^ n)) lla (zak (by omega))
  rw [V_D] at cc
  refine zd (by omega) ?_
  refine Ev.bind hs ?_
  dsimp only
  refine zf ?_
  simp only [z3.j1]
  refine Ev.bind cc ?_
  refine zg (Ev.now _) ?_
  rw [← zc6 (m := ea) (by omega) (by omega), zcp, zcp, Int.sub_self, hn, zd6]
  show _ = (((V la * 2 ^ 0 : Nat) : Int) - _).sign
  rw [Nat.pow_zero, Nat.mul_one]; rfl
 ·obtain ⟨n, hn⟩ := Int.eq_ofNat_of_zero_le (show 0 ≤ ea - eb by omega)
  have ew2 : wrap64 (-(eb - ea)) = (n : Int) := by unfold wrap64; omega
  rw [ew2]
  clear ew2
  have hu := zbw (V la) n
  have hs := zcf da.nm lla (n : Int)
  rw [zcP (by omega)] at hs
  have cc := zcL (zu (V la * 2 ^ n)) db.nm (zak (by omega)) llb
  rw [V_D] at cc
  refine ze c3 ?_
  refine Ev.bind hs ?_
  dsimp only
  refine zf ?_
  simp only [z3.j1]
  refine Ev.bind cc ?_
  refine zg (Ev.now _) ?_
  rw [← zc6 (m := eb) (by omega) (by omega), zcp, zcp, Int.sub_self, hn, zd6]
  show _ = (_ - ((V lb * 2 ^ 0 : Nat) : Int)).sign
  rw [Nat.pow_zero, Nat.mul_one]; rfl
theorem zfX {L H : Int} (k : Wk L H) {sa sb : Bool} {la lb : List Int} {ea eb : Int} (ha : Wn L H sa la ea) (hb : Wn L H sb lb eb) : Ev (fun k => zaM.f k sa la ea sb lb eb) (zj (sv sa (V la)) ea (sv sb (V lb)) eb, 0) := by
 have s1 := zdc (ha.my k)
 have s2 := zdc (hb.my k)
 unfold zaM.f
 refine Ev.bind (zde (ha.my k) (hb.my k)) ?_
 refine ze (by simp) ?_
 refine Ev.bind s1 ?_
 refine Ev.bind s2 ?_
 by_cases c1 : (sv sa (V la)).sign = (sv sb (V lb)).sign
 ·refine ze (by omega) ?_
  refine ze (by omega) ?_
  by_cases ca : la = []
  ·have hz : (sv sa (V la)).sign = 0 := by rw [ca, zE, zW]; rfl
   have cb : lb = [] := by
    by_cases cb : lb = []
    ·exact cb
    ·have h1 := hb.dy.odd cb
     rw [zaS (n := V lb) (by omega), hz] at c1
     split at c1 <;> omega
   subst ca; subst cb
   obtain ⟨e1, e2⟩ := zdD ha.dy
   obtain ⟨e3, e4⟩ := zdD hb.dy
   subst e1; subst e2; subst e3; subst e4
   refine Ev.bind zf3 ?_
   refine zg (Ev.now _) ?_
   rw [Int.mul_zero, zar (by omega) (by omega)]; rfl
  ·have h1 := ha.dy.odd ca
   have va : V la ≠ 0 := by omega
   have cb : lb ≠ [] := by
    intro cb
    rw [cb, zE, zW, zaS va] at c1
    have : (0 : Int).sign = 0 := rfl
    rw [this] at c1
    split at c1 <;> omega
   have h2 := hb.dy.odd cb
   have vb : V lb ≠ 0 := by omega
   have hs : sa = sb := by
    rw [zaS va, zaS vb] at c1
    cases sa <;> cases sb <;> simp at c1 <;> rfl
   refine Ev.bind (zf2 k ha hb ca cb) ?_
   refine zg (Ev.now _) ?_
   rw [hs, zfN sb (V la) (V lb) ea eb va]
   have hr := zfM (sv sb (V la)) ea (sv sb (V lb)) eb
   have e : wrap64 (zj (sv sb (V la)) ea (sv sb (V lb)) eb) = zj (sv sb (V la)) ea (sv sb (V lb)) eb := by unfold wrap64; omega
   rw [e]
 ·have hc := zd8 (a := al (sv sa (V la)) ea (min ea eb)) (b := al (sv sb (V lb)) eb (min ea eb)) (by rw [zT, zT]; exact c1)
  rw [zT, zT] at hc
  unfold zj
  rw [hc]
  by_cases c2 : (sv sa (V la)).sign < (sv sb (V lb)).sign
  ·refine zd c2 ?_
   exact zg (Ev.now _) (by rw [if_pos c2])
  ·refine ze c2 ?_
   refine zd (by omega) ?_
   exact zg (Ev.now _) (by rw [if_neg c2])
structure Wg (L H z e : Int) : Prop where
 lo : z ≠ 0 → L ≤ e
 hi : z ≠ 0 → e + (bl z.natAbs : Nat) ≤ H
theorem zcU {L H z e : Int} (h : Wg L H z e) : Wn L H (mk z e).1 (mk z e).2.1 (mk z e).2.2 := by
 refine ⟨zaB z e, ?_, ?_⟩
 ·intro c
  by_cases hz : z = 0
  ·subst hz; exact absurd rfl c
  ·have h1 := h.lo hz
   have h2 := zaF z e
   have h3 : (mk z e).2.2 = me z e := rfl
   omega
 ·intro c
  by_cases hz : z = 0
  ·subst hz; exact absurd rfl c
  ·have h1 := h.hi hz
   obtain ⟨j, p1, p2, p3, p4⟩ := zbo hz e
   have h3 : (mk z e).2.2 = me z e := rfl
   have h4 : bl (mz z e).natAbs = bl (V (mk z e).2.1) := by unfold mz; rw [zaR]
   omega
theorem zhG {L H : Int} (k : Wk L H) {za ea zb eb : Int} (ha : Wg L H za ea) (hb : Wg L H zb eb) : Ev (fun k => zbi.f k (mk za ea).1 (mk za ea).2.1 (mk za ea).2.2 (mk zb eb).1 (mk zb eb).2.1 (mk zb eb).2.2) (ok3 (zw za ea zb eb)) := by
 refine zg (zfW k (zcU ha) (zcU hb)) ?_
 show ok3 (zw (mz za ea) (me za ea) (mz zb eb) (me zb eb)) = _
 rw [zc3, zdK]
theorem zhH {L H : Int} (k : Wk L H) {za ea zb eb : Int} (ha : Wg L H za ea) (hb : Wg L H zb eb) : Ev (fun k => zaM.f k (mk za ea).1 (mk za ea).2.1 (mk za ea).2.2 (mk zb eb).1 (mk zb eb).2.1 (mk zb eb).2.2) (zj za ea zb eb, 0) := by
 refine zg (zfX k (zcU ha) (zcU hb)) ?_
 show (zj (mz za ea) (me za ea) (mz zb eb) (me zb eb), (0 : Int)) = _
 rw [zc7, zd3]
theorem zfe {f : Int} (h : isF f) (w : Nat) : Ev (fun k => zaT.f k f (w : Int)) (zaw f w) := by
 unfold zaT.f
 exact Ev.bind (zfk h w) (Ev.now _)
theorem zhI {f : Int} (h : ¬ isF f) (w : Int) : Ev (fun k => zaT.f k f w) 4 := by
 unfold zaT.f
 exact Ev.bind (zhN h _) (Ev.now _)
theorem zgN {f : Int} (h : isF f) (a b : Nat) : Ev (fun k => za6.f k f (a : Int) (b : Int)) (if a < 2 * sg f ∧ b < 2 * sg f then 0 else 6) := by
 unfold za6.f
 have ha := zfe h a
 have hb := zfe h b
 unfold zaw at ha hb
 by_cases c : a < 2 * sg f
 ·rw [if_pos c] at ha
  refine Ev.bind ha (ze (by simp) (Ev.bind hb ?_))
  by_cases d : b < 2 * sg f
  ·rw [if_pos d, if_pos ⟨c, d⟩]; exact Ev.now _
  ·rw [if_neg d, if_neg (fun hh => d hh.2)]; exact Ev.now _
 ·rw [if_neg c] at ha
  rw [if_neg (fun hh => c hh.1)]
  exact Ev.bind ha (zd (by simp) (Ev.now _))
theorem zgM {f : Int} (h : ¬ isF f) (a b : Int) : Ev (fun k => za6.f k f a b) 4 := by
 unfold za6.f
 exact Ev.bind (zhI h a) (zd (by simp) (Ev.now _))
theorem zeS {f : Int} (h : isF f) (l : List (Nat × Nat)) (hl : l.length ≤ 1000) (hw : ∀ p ∈ l, p.1 < 18446744073709551616 ∧ p.2 < 18446744073709551616) : ∀ n i : Nat, i + n = l.length →
  Ev (fun k => zZ.l0 k f (l.map fun p => ((p.1 : Int), (p.2 : Int))) (i : Int)) (if ∀ p ∈ l.drop i, p.1 < 2 * sg f ∧ p.2 < 2 * sg f then 0 else 6)
 | 0, i, hi => by
  refine zf ?_; simp only [zZ.l0]
  rw [List.drop_eq_nil_of_le (by omega), if_pos (fun p hp => by cases hp)]
  exact ze (by rw [List.length_map]; omega) (Ev.now _)
 | n + 1, i, hi => by
  have hd : l.drop i = l[i] :: l.drop (i + 1) := List.drop_eq_getElem_cons (by omega)
  have hr : rdT [.i .u64, .i .u64] (l.map fun p => ((p.1 : Int), (p.2 : Int))) (i : Int) = ((l[i].1 : Int), (l[i].2 : Int)) := by
   unfold rdT
   rw [Int.toNat_natCast, List.getD_eq_getElem?_getD, List.getElem?_map, List.getElem?_eq_getElem (by omega)]
   rfl
  obtain ⟨b1, b2⟩ := hw l[i] (List.getElem_mem _)
  have e1 : wrap64 ((i : Int) + 1) = ((i + 1 : Nat) : Int) := by rw [w64 (by omega) (by omega)]; omega
  have ih := zeS h l hl hw n (i + 1) (by omega)
  refine zf ?_; simp only [zZ.l0]
  rw [hr, e1, hd]
  refine zd (by rw [List.length_map]; omega) (zd (by omega) (zd (by rw [List.length_map]; omega) (zh (zeF h b1) ?_)))
  by_cases c : l[i].1 < 2 * sg f
  ·refine ze (by unfold zaw; rw [if_pos c]; simp) (zd (by omega) (zd (by rw [List.length_map]; omega) (zh (zeF h b2) ?_)))
   by_cases d : l[i].2 < 2 * sg f
   ·refine ze (by unfold zaw; rw [if_pos d]; simp) ?_
    refine zg ih ?_
    by_cases e : ∀ p ∈ l.drop (i + 1), p.1 < 2 * sg f ∧ p.2 < 2 * sg f
    ·rw [if_pos e, if_pos (fun p hp => by
      rcases List.mem_cons.1 hp with rfl | hp
      ·exact ⟨c, d⟩
      ·exact e p hp)]
    ·rw [if_neg e, if_neg (fun hh => e (fun p hp => hh p (List.mem_cons_of_mem _ hp)))]
   ·refine zd (by unfold zaw; rw [if_neg d]; simp) ?_
    rw [if_neg (fun hh => d (hh _ (List.mem_cons_self)).2)]
    exact Ev.now _
  ·refine zd (by unfold zaw; rw [if_neg c]; simp) ?_
   rw [if_neg (fun hh => c (hh _ (List.mem_cons_self)).1)]
   exact Ev.now _
theorem zhf {f : Int} (h : isF f) (l : List (Nat × Nat)) (hl : l.length ≤ 1000) (hw : ∀ p ∈ l, p.1 < 18446744073709551616 ∧ p.2 < 18446744073709551616) :
  Ev (fun k => zZ.f k f (l.map fun p => ((p.1 : Int), (p.2 : Int)))) (if ∀ p ∈ l, p.1 < 2 * sg f ∧ p.2 < 2 * sg f then 0 else 6) := by
 unfold zZ.f
 refine zh (zdp f) ?_
 rw [decide_eq_true h]
 exact ze (by simp) (zeS h l hl hw l.length 0 (by omega))
theorem zhe {f : Int} (h : ¬ isF f) (l : List (Int × Int)) : Ev (fun k => zZ.f k f l) 4 := by
 unfold zZ.f
 refine zh (zdp f) ?_
 rw [decide_eq_false h]
 exact zd rfl (Ev.now _)
def pcl (f : Int) (a b : Nat) : Int := if cls f a = 4 ∨ cls f b = 4 then 3 else if cls f a = 5 ∨ cls f b = 5 then 4 else if cls f a = 1 ∧ cls f b = 1 then 1 else 2
theorem zeB (x y : Int) (u : Bool) : Ev (fun k => zM.j2 k x y u) (if u = true then (4, 0) else if x = 1 ∧ y = 1 then (1, 0) else (2, 0)) := by
 refine zf ?_; simp only [zM.j2]
 cases u
 ·refine ze (by simp) ?_
  rw [if_neg (show ¬ (false = true) by simp)]
  by_cases c : x = 1
  ·by_cases d : y = 1
   ·rw [if_pos (show x = 1 ∧ y = 1 from ⟨c, d⟩)]; exact zd c (zd d (Ev.now _))
   ·rw [if_neg (show ¬ (x = 1 ∧ y = 1) from fun hh => d hh.2)]; exact zd c (ze d (Ev.now _))
  ·rw [if_neg (show ¬ (x = 1 ∧ y = 1) from fun hh => c hh.1)]; exact ze c (Ev.now _)
 ·exact zd rfl (Ev.now _)
theorem zeA (f x y : Int) (u : Bool) : Ev (fun k => zM.j1 k x y u) (if u = true then (3, 0) else if x = 5 ∨ y = 5 then (4, 0) else if x = 1 ∧ y = 1 then (1, 0) else (2, 0)) := by
 refine zf ?_; simp only [zM.j1]
 cases u
 ·refine ze (by simp) ?_
  rw [if_neg (show ¬ (false = true) by simp)]
  by_cases c : x = 5
  ·rw [if_pos (show x = 5 ∨ y = 5 from .inl c)]
   refine zd c (zg (zeB x y true) ?_)
   rw [if_pos rfl]
  ·refine ze c (zg (zeB x y _) ?_)
   by_cases d : y = 5
   ·rw [decide_eq_true d, if_pos (show true = true from rfl), if_pos (show x = 5 ∨ y = 5 from .inr d)]
   ·rw [decide_eq_false d, if_neg (show ¬ (false = true) by simp), if_neg (show ¬ (x = 5 ∨ y = 5) from fun hh => hh.elim c d)]
 ·exact zd rfl (Ev.now _)
theorem zgL {f : Int} (h : isF f) {a b : Nat} (ha : a < 2 * sg f) (hb : b < 2 * sg f) : Ev (fun k => zM.f k f (a : Int) (b : Int)) (pcl f a b, 0) := by
 unfold zM.f pcl
 refine Ev.bind (zfj h ha) (ze (by simp) (Ev.bind (zfj h hb) (ze (by simp) ?_)))
 dsimp only
 by_cases c : cls f a = 4
 ·rw [if_pos (.inl c)]
  refine zd c (zg (zeA f _ _ true) ?_)
  rw [if_pos rfl]
 ·refine ze c (zg (zeA f _ _ _) ?_)
  by_cases d : cls f b = 4
  ·rw [decide_eq_true d, if_pos (show true = true from rfl), if_pos (.inr d)]
  ·rw [decide_eq_false d, if_neg (show ¬ (false = true) by simp), if_neg (show ¬ (cls f a = 4 ∨ cls f b = 4) from fun hh => hh.elim c d)]
   by_cases c5 : cls f a = 5 ∨ cls f b = 5
   ·rw [if_pos c5, if_pos c5]
   ·rw [if_neg c5, if_neg c5]
    split <;> rfl
def zK (f : Int) (a b : Nat) : Prop := cls f a < 4 ∧ cls f b < 4
instance (f : Int) (a b : Nat) : Decidable (zK f a b) := inferInstanceAs (Decidable (_ ∧ _))
theorem zhd {f : Int} (h : isF f) (a b : Nat) : zbH.f f (a : Int) (b : Int) = some (decide (zK f a b)) := by
 unfold zbH.f zK
 rw [zeD h, Option.bind_some, zeD h, Option.bind_some]
 by_cases c : cls f a < 4
 ·rw [if_pos (decide_eq_true c)]
  congr 1
  by_cases d : cls f b < 4 <;> simp [c, d]
 ·rw [if_neg (by simpa using c)]
  simp [c]
theorem zeC {f : Int} (h : isF f) (a b : Nat) : pcl f a b > 2 ↔ ¬ zK f a b := by
 have h1 := zc5 h a
 have h2 := zc5 h b
 unfold pcl zK
 split
 ·omega
 ·split
  ·omega
  ·split <;> omega
def zag (f : Int) (l : List (Nat × Nat)) : Int := if ∀ p ∈ l, p.1 < 2 * sg f ∧ p.2 < 2 * sg f then (if ∀ p ∈ l, zK f p.1 p.2 then 0 else 7) else 6
theorem zeJ (l : List (Nat × Nat)) {i : Nat} (hi : i < l.length) : rdT [.i .u64, .i .u64] (l.map fun p => ((p.1 : Int), (p.2 : Int))) (i : Int) = ((l[i].1 : Int), (l[i].2 : Int)) := by
 unfold rdT
 rw [Int.toNat_natCast, List.getD_eq_getElem?_getD, List.getElem?_map, List.getElem?_eq_getElem hi]
 rfl
theorem zeh {f : Int} (h : isF f) (l : List (Nat × Nat)) (hl : l.length ≤ 1000) (hw : ∀ p ∈ l, p.1 < 2 * sg f ∧ p.2 < 2 * sg f) : ∀ n i : Nat, i + n = l.length →
  Ev (fun k => zz.l1 k f (l.map fun p => ((p.1 : Int), (p.2 : Int))) (l.length : Int) (i : Int)) (if ∀ p ∈ l.drop i, zK f p.1 p.2 then 0 else 7)
 | 0, i, hi => by
  refine zf ?_; simp only [zz.l1]
  rw [List.drop_eq_nil_of_le (by omega), if_pos (fun p hp => by cases hp)]
  exact ze (by omega) (Ev.now _)
 | n + 1, i, hi => by
  have hd : l.drop i = l[i] :: l.drop (i + 1) := List.drop_eq_getElem_cons (by omega)
  have hr := zeJ l (i := i) (by omega)
  have e1 : wrap64 ((i : Int) + 1) = ((i + 1 : Nat) : Int) := by rw [w64 (by omega) (by omega)]; omega
  have ih := zeh h l hl hw n (i + 1) (by omega)
  obtain ⟨b1, b2⟩ := hw l[i] (List.getElem_mem _)
  refine zf ?_; simp only [zz.l1]
  rw [hr, e1, hd]
  clear e1
  refine zd (by omega) (zd (by omega) (zd (by rw [List.length_map]; omega) (Ev.bind (zgL h b1 b2) ?_)))
  dsimp only
  by_cases c : zK f l[i].1 l[i].2
  ·refine ze (fun hh => (zeC h _ _).1 hh c) (zg ih ?_)
   by_cases e : ∀ p ∈ l.drop (i + 1), zK f p.1 p.2
   ·rw [if_pos e, if_pos (fun p hp => by
     rcases List.mem_cons.1 hp with rfl | hp
     ·exact c
     ·exact e p hp)]
   ·rw [if_neg e, if_neg (fun hh => e (fun p hp => hh p (List.mem_cons_of_mem _ hp)))]
  ·refine zd ((zeC h _ _).2 c) ?_
   rw [if_neg (fun hh => c (hh _ List.mem_cons_self))]
   exact Ev.now _
theorem zeg {f : Int} (h : isF f) (l : List (Nat × Nat)) (hl : l.length ≤ 1000) : ∀ n i : Nat, i + n = l.length → (∀ p ∈ l.take i, p.1 < 2 * sg f ∧ p.2 < 2 * sg f) →
  Ev (fun k => zz.l0 k f (l.map fun p => ((p.1 : Int), (p.2 : Int))) (l.map fun p => ((p.1 : Int), (p.2 : Int))) (l.length : Int) (i : Int)) (zag f l)
 | 0, i, hi, hw => by
  rw [List.take_of_length_le (by omega)] at hw
  have h1 := zeh h l hl hw l.length 0 (by omega)
  have e0 : ((l.map fun p : Nat × Nat => ((p.1 : Int), (p.2 : Int))).length : Int) = (l.length : Int) := by rw [List.length_map]
  refine zf ?_; simp only [zz.l0]
  rw [e0]
  refine ze (by omega) (zg h1 ?_)
  unfold zag
  rw [if_pos hw]; rfl
 | n + 1, i, hi, hw => by
  have hr := zeJ l (i := i) (by omega)
  have e1 : wrap64 ((i : Int) + 1) = ((i + 1 : Nat) : Int) := by rw [w64 (by omega) (by omega)]; omega
  have ht : l.take (i + 1) = l.take i ++ [l[i]] := by rw [List.take_succ_eq_append_getElem]
  refine zf ?_; simp only [zz.l0]
  rw [hr, e1]
  clear e1
  refine zd (by omega) (zd (by omega) (zd (by rw [List.length_map]; omega) (Ev.bind (zgN h l[i].1 l[i].2) ?_)))
  by_cases c : l[i].1 < 2 * sg f ∧ l[i].2 < 2 * sg f
  ·rw [if_pos c]
   refine ze (by simp) (zeg h l hl n (i + 1) (by omega) ?_)
   rw [ht]
   intro p hp
   rcases List.mem_append.1 hp with hp | hp
   ·exact hw p hp
   ·rw [List.mem_singleton.1 hp]; exact c
  ·rw [if_neg c]
   refine zd (by simp) ?_
   unfold zag
   rw [if_neg (fun hh => c (hh _ (List.getElem_mem _)))]
   exact Ev.now _
theorem zgc {f : Int} (h : isF f) (l : List (Nat × Nat)) (hl : l.length ≤ 1000) : Ev (fun k => zz.f k f (l.map fun p => ((p.1 : Int), (p.2 : Int)))) (zag f l) := by
 unfold zz.f
 have h1 := zeg h l hl l.length 0 (by omega) (fun p hp => by cases hp)
 have e0 : ((l.map fun p : Nat × Nat => ((p.1 : Int), (p.2 : Int))).length : Int) = (l.length : Int) := by rw [List.length_map]
 rw [e0]
 exact h1
theorem zgb {f : Int} (h : ¬ isF f) (p : Int × Int) (l : List (Int × Int)) : Ev (fun k => zz.f k f (p :: l)) 4 := by
 unfold zz.f
 have hr : rdT [.i .u64, .i .u64] (p :: l) 0 = p := rfl
 refine zf ?_; simp only [zz.l0]
 rw [hr]
 refine zd (by rw [List.length_cons]; omega) (zd (by omega) (zd (by rw [List.length_cons]; omega) (Ev.bind (zgM h p.1 p.2) ?_)))
 exact zd (by simp) (Ev.now _)
theorem zgj (m : Nat) : zaX.f (m + 100) = some true := by kernel_rfl
theorem zcD : Ev (fun k => zaX.f k) true := by
 refine ⟨100, fun k hk => ?_⟩
 obtain ⟨m, rfl⟩ : ∃ m, k = m + 100 := ⟨k - 100, by omega⟩
 exact zgj m
structure Wz (z e : Int) : Prop where
 b : bl z.natAbs ≤ 64
 lo : -1074 ≤ e
 hi : e ≤ 3000
theorem zdZ (x y : Int) : bl (x * y).natAbs ≤ bl x.natAbs + bl y.natAbs := by
 rw [Int.natAbs_mul]; exact zdX _ _
theorem zfG (x y : Int) : bl (x + y).natAbs ≤ max (bl x.natAbs) (bl y.natAbs) + 1 :=
 Nat.le_trans (zb3 (Int.natAbs_add_le x y)) (zdT _ _)
def zcV (za ea zb eb : Int) : Int := al za ea (min ea eb) + al zb eb (min ea eb)
theorem zdU (z e m : Int) : bl (al z e m).natAbs ≤ bl z.natAbs + (e - m).toNat := by
 rw [zdO]; exact zbw _ _
theorem zfH (za ea zb eb : Int) {n : Nat} (ha : bl za.natAbs + (ea - min ea eb).toNat ≤ n) (hb : bl zb.natAbs + (eb - min ea eb).toNat ≤ n) : bl (zcV za ea zb eb).natAbs ≤ n + 1 := by
 have h1 := zdU za ea (min ea eb)
 have h2 := zdU zb eb (min ea eb)
 have h3 := zfG (al za ea (min ea eb)) (al zb eb (min ea eb))
 unfold zcV
 omega
structure W2 (z e : Int) : Prop where
 b : bl z.natAbs ≤ 128
 lo : -2148 ≤ e
 hi : e ≤ 6000
theorem Wz.mul {za ea zb eb : Int} (ha : Wz za ea) (hb : Wz zb eb) : W2 (za * zb) (ea + eb) := by
 have h1 := zdZ za zb
 obtain ⟨a1, a2, a3⟩ := ha
 obtain ⟨b1, b2, b3⟩ := hb
 exact ⟨by omega, by omega, by omega⟩
theorem W2.rg {z e : Int} (h : W2 z e) : Rg z e := by
 obtain ⟨a1, a2, a3⟩ := h
 exact ⟨by omega, by omega, by omega⟩
theorem Wz.rg {z e : Int} (h : Wz z e) : Rg z e := by
 obtain ⟨a1, a2, a3⟩ := h
 exact ⟨by omega, by omega, by omega⟩
def zbn (s : Bool) (l : List Int) (e : Int) : Bool := may l && (if l = [] then !s && decide (e = 0) else decide (V l % 2 = 1) && decide (-16777216 ≤ e ∧ e ≤ 16777216))
theorem zdj {s : Bool} {l : List Int} {e : Int} (h : zbn s l e = true) : My s l e := by
 unfold zbn at h
 rw [Bool.and_eq_true] at h
 obtain ⟨h1, h2⟩ := h
 obtain ⟨h3, h4⟩ := zae.1 h1
 by_cases c : l = []
 ·rw [if_pos c, Bool.and_eq_true, decide_eq_true_iff, Bool.not_eq_true'] at h2
  obtain ⟨h5, h6⟩ := h2
  exact ⟨⟨h4, fun _ => ⟨h5, h6⟩, fun hh => absurd c hh⟩, h3, by omega, by omega⟩
 ·rw [if_neg c, Bool.and_eq_true, decide_eq_true_iff, decide_eq_true_iff] at h2
  obtain ⟨h5, h6⟩ := h2
  exact ⟨⟨h4, fun hh => absurd hh c, fun _ => h5⟩, h3, h6.1, h6.2⟩
theorem zgf (e : Int) : zbk.f e = some (decide (-16777216 ≤ e ∧ e ≤ 16777216)) := by
 unfold zbk.f
 by_cases c : -16777216 ≤ e
 ·rw [if_pos c]; simp [c]
 ·rw [if_neg c]; simp [c]
theorem zdb {s : Bool} {l : List Int} {e : Int} (h : Dg l) (hb : l.length ≤ 1000000) : zx.f s l e = some (zbn s l e) := by
 unfold zx.f zbn
 rw [zaQ h (by omega), Option.bind_some]
 cases may l with
 | false => rw [if_pos (show (!false) = true from rfl), Bool.false_and]
 | true =>
  rw [if_neg (show ¬ (!true) = true by simp), Bool.true_and]
  by_cases c : l = []
  ·rw [if_pos (zS.2 c), if_pos c]
   cases s
   ·rw [if_pos (show (!false) = true from rfl)]; simp
   ·rw [if_neg (show ¬ (!true) = true by simp)]; simp
  ·rw [if_neg (fun hh => c (zS.1 hh)), if_neg c, if_pos (zcE c), zdh h, zgf, Option.bind_some]
   by_cases o : V l % 2 = 1
   ·rw [if_pos (by omega)]; simp [o]
   ·rw [if_neg (by omega)]; simp [o]
theorem zgH {l : List Int} (h : Dg l) : Int.tmod (rd l 0) 2 = ((V l % 2 : Nat) : Int) := by
 have h1 := zdh h
 have h3 := h.rd 0
 cases l with
 | nil => rfl
 | cons d r =>
  have e : rd (d :: r) 0 = d := rfl
  rw [e] at h3 ⊢
  rw [zv, Int.tmod_eq_emod_of_nonneg h3.1]
  omega
theorem zdq {s : Bool} {l : List Int} {e : Int} (h : Dg l) (hb : l.length ≤ 1000000) : zaZ.f s l e = some (zbn s l e) := by
 have e1 : zb4.f l = zR.f l := rfl
 unfold zaZ.f zbn
 rw [e1, zaQ h (by omega), Option.bind_some]
 cases may l with
 | false => rw [if_pos (show (!false) = true from rfl), Bool.false_and]
 | true =>
  rw [if_neg (show ¬ (!true) = true by simp), Bool.true_and]
  by_cases c : l = []
  ·rw [if_pos (zS.2 c), if_pos c]
   cases s
   ·rw [if_pos (show (!false) = true from rfl)]; simp
   ·rw [if_neg (show ¬ (!true) = true by simp)]; simp
  ·rw [if_neg (fun hh => c (zS.1 hh)), if_neg c, if_pos (zcE c), zgH h]
   by_cases o : V l % 2 = 1
   ·rw [if_pos (by omega)]
    by_cases o2 : e ≥ -16777216
    ·rw [if_pos o2]; simp [o]; intro; omega
    ·rw [if_neg o2]; simp [o]; intro; omega
   ·rw [if_neg (by omega)]; simp [o]
structure In (d : Bool × List Int × Int) : Prop where
 dg : Dg d.2.1
 len : d.2.1.length ≤ 1300
def zr (d : Bool × List Int × Int) : Prop := d.2.1.length ≤ 400 ∧ -20000 ≤ d.2.2 ∧ d.2.2 ≤ 20000
instance (d : Bool × List Int × Int) : Decidable (zr d) := inferInstanceAs (Decidable (_ ∧ _ ∧ _))
def zn (d : Bool × List Int × Int) : Bool := zbn d.1 d.2.1 d.2.2
def zah (f : Int) (a b : Nat) (k : Int) (x y z : Bool × List Int × Int) : Int :=
 if ¬ (a < 2 * sg f ∧ b < 2 * sg f) then 6 else if ¬ (zn x = true ∧ zn y = true ∧ zn z = true ∧ 0 ≤ k) then 2 else if z.2.1 = [] then 11 else if ¬ zK f a b then 7 else if zr x ∧ zr y ∧ zr z then 0 else 3
theorem zfA (x y z : Bool × List Int × Int) : Ev (fun k => zi.l0 k x.1 x.2.1 x.2.2 y.1 y.2.1 y.2.2 z.1 z.2.1 z.2.2 0) (if zr x ∧ zr y ∧ zr z then 0 else 3) := by
 have w0 : wrap64 (0 + 1) = 1 := by unfold wrap64; omega
 have w1 : wrap64 (1 + 1) = 2 := by unfold wrap64; omega
 have w2 : wrap64 (2 + 1) = 3 := by unfold wrap64; omega
 have bad : ∀ {d : Bool × List Int × Int} {g : Nat → Option Int}, ¬ zr d → Ev (fun k => if (d.2.1.length : Int) > 400 then some 3 else if d.2.2 < -20000 then some 3 else if d.2.2 > 20000 then some 3 else g k) 3 := by
  intro d g hd
  by_cases c1 : (d.2.1.length : Int) > 400
  ·exact zd c1 (Ev.now _)
  by_cases c2 : d.2.2 < -20000
  ·exact ze c1 (zd c2 (Ev.now _))
  by_cases c3 : d.2.2 > 20000
  ·exact ze c1 (ze c2 (zd c3 (Ev.now _)))
  exact absurd (⟨by omega, by omega, by omega⟩ : zr d) hd
 have good : ∀ {d : Bool × List Int × Int} {g : Nat → Option Int} {r : Int}, zr d → Ev g r → Ev (fun k => if (d.2.1.length : Int) > 400 then some 3 else if d.2.2 < -20000 then some 3 else if d.2.2 > 20000 then some 3 else g k) r := by
  intro d g r hd hg
  obtain ⟨h1, h2, h3⟩ := hd
  exact ze (by omega) (ze (by omega) (ze (by omega) hg))
 refine zf ?_; simp only [zi.l0]
 refine zd (by omega) (zd trivial ?_)
 by_cases hx : zr x
 rotate_left
 ·rw [if_neg (fun hh => hx hh.1)]; exact bad hx
 refine good hx ?_
 rw [w0]
 refine zf ?_; simp only [zi.l0]
 refine zd (by omega) (ze (by omega) (zd trivial ?_))
 by_cases hy : zr y
 rotate_left
 ·rw [if_neg (fun hh => hy hh.2.1)]; exact bad hy
 refine good hy ?_
 rw [w1]
 refine zf ?_; simp only [zi.l0]
 refine zd (by omega) (ze (by omega) (ze (by omega) (zd trivial ?_)))
 by_cases hz : zr z
 rotate_left
 ·rw [if_neg (fun hh => hz hh.2.2)]; exact bad hz
 refine good hz ?_
 rw [w2, if_pos ⟨hx, hy, hz⟩]
 refine zf ?_; simp only [zi.l0]
 exact ze (by omega) (Ev.now _)
theorem zcQ {d : Bool × List Int × Int} (h : Dy d.1 d.2.1 d.2.2) : (sv d.1 (V d.2.1)).sign = 0 ↔ d.2.1 = [] := by
 constructor
 ·intro hs
  by_cases c : d.2.1 = []
  ·exact c
  ·have h1 := h.odd c
   rw [zaS (by omega)] at hs
   split at hs <;> omega
 ·intro c
  rw [c, zE, zW]; rfl
theorem zcr {f : Int} {a b : Nat} {kk n : Int} {x y z : Bool × List Int × Int} (u : Bool) (hu : u = true ↔ ¬ (zn x = true ∧ zn y = true ∧ zn z = true ∧ 0 ≤ kk)) (hn : n = if zK f a b then 0 else 7) (hw : a < 2 * sg f ∧ b < 2 * sg f) :
  Ev (fun k => zi.j2 k x.1 x.2.1 x.2.2 y.1 y.2.1 y.2.2 z.1 z.2.1 z.2.2 n u) (zah f a b kk x y z) := by
 unfold zah
 rw [if_neg (fun hh => hh hw)]
 refine zf ?_; simp only [zi.j2]
 by_cases c : u = true
 ·rw [if_pos (hu.1 c)]
  exact zd c (Ev.now _)
 have hm : zn x = true ∧ zn y = true ∧ zn z = true ∧ 0 ≤ kk := Classical.byContradiction fun hh => c (hu.2 hh)
 have hz := zdj hm.2.2.1
 rw [if_neg (fun hh => hh hm)]
 refine ze c (Ev.bind (zdc hz) ?_)
 by_cases c2 : z.2.1 = []
 ·rw [if_pos c2]
  exact zd ((zcQ hz.dy).2 c2) (Ev.now _)
 rw [if_neg c2]
 refine ze (fun hh => c2 ((zcQ hz.dy).1 hh)) ?_
 subst hn
 by_cases c3 : zK f a b
 ·rw [if_pos c3, if_neg (fun hh => hh c3)]
  exact ze (by simp) (zfA x y z)
 ·rw [if_neg c3, if_pos c3]
  exact zd (by simp) (Ev.now _)
theorem zdR {f : Int} (h : isF f) (a b : Nat) (kk : Int) {x y z : Bool × List Int × Int} (hx : In x) (hy : In y) (hz : In z) :
  Ev (fun k => zi.f k f (a : Int) (b : Int) kk x.1 x.2.1 x.2.2 y.1 y.2.1 y.2.2 z.1 z.2.1 z.2.2) (zah f a b kk x y z) := by
 have ho := zgc h [(a, b)] (by simp)
 have mx := zdb (s := x.1) (e := x.2.2) hx.dg (by have := hx.len; omega)
 have my := zdb (s := y.1) (e := y.2.2) hy.dg (by have := hy.len; omega)
 have mz := zdb (s := z.1) (e := z.2.2) hz.dg (by have := hz.len; omega)
 unfold zi.f
 by_cases hw : a < 2 * sg f ∧ b < 2 * sg f
 rotate_left
 ·have e0 : zag f [(a, b)] = 6 := by unfold zag; rw [if_neg (fun hh => hw (hh (a, b) (by simp)))]
  rw [e0] at ho
  unfold zah
  rw [if_pos hw]
  exact Ev.bind ho (zd (by simp) (zd (by simp) (Ev.now _)))
 have e0 : zag f [(a, b)] = if zK f a b then 0 else 7 := by
  unfold zag
  rw [if_pos (fun p hp => by rw [List.mem_singleton.1 hp]; exact hw)]
  by_cases c : zK f a b
  ·rw [if_pos c, if_pos (fun p hp => by rw [List.mem_singleton.1 hp]; exact c)]
  ·rw [if_neg c, if_neg (fun hh => c (hh (a, b) (by simp)))]
 have tail : Ev (fun k => (zx.f x.1 x.2.1 x.2.2).bind fun t133 => if (!t133) = true then zi.j2 k x.1 x.2.1 x.2.2 y.1 y.2.1 y.2.2 z.1 z.2.1 z.2.2 (zag f [(a, b)]) true else (zx.f y.1 y.2.1 y.2.2).bind fun t134 => if (!t134) = true then zi.j2 k x.1 x.2.1 x.2.2 y.1 y.2.1 y.2.2 z.1 z.2.1 z.2.2 (zag f [(a, b)]) true else (zx.f z.1 z.2.1 z.2.2).bind fun t135 => if (!t135) = true then zi.j2 k x.1 x.2.1 x.2.2 y.1 y.2.1 y.2.2 z.1 z.2.1 z.2.2 (zag f [(a, b)]) true else zi.j2 k x.1 x.2.1 x.2.2 y.1 y.2.1 y.2.2 z.1 z.2.1 z.2.2 (zag f [(a, b)]) (decide (kk < 0))) (zah f a b kk x y z) := by
  refine zh mx ?_
  by_cases c1 : zn x = true
  rotate_left
  ·exact zd (by unfold zn at c1; simpa using c1) (zcr true ⟨fun _ hh => c1 hh.1, fun _ => rfl⟩ e0 hw)
  refine ze (by unfold zn at c1; simpa using c1) (zh my ?_)
  by_cases c2 : zn y = true
  rotate_left
  ·exact zd (by unfold zn at c2; simpa using c2) (zcr true ⟨fun _ hh => c2 hh.2.1, fun _ => rfl⟩ e0 hw)
  refine ze (by unfold zn at c2; simpa using c2) (zh mz ?_)
  by_cases c3 : zn z = true
  rotate_left
  ·exact zd (by unfold zn at c3; simpa using c3) (zcr true ⟨fun _ hh => c3 hh.2.2.1, fun _ => rfl⟩ e0 hw)
  refine ze (by unfold zn at c3; simpa using c3) (zcr _ ?_ e0 hw)
  rw [decide_eq_true_iff]
  exact ⟨fun hh hm => by have := hm.2.2.2; omega, fun hh => by
   refine Classical.byContradiction fun hk => hh ⟨c1, c2, c3, by omega⟩⟩
 refine Ev.bind ho ?_
 by_cases c : zK f a b
 ·have e1 : zag f [(a, b)] = 0 := by rw [e0, if_pos c]
  exact ze (fun hh => hh e1) tail
 ·have e1 : zag f [(a, b)] = 7 := by rw [e0, if_neg c]
  exact zd (fun hh => by omega) (ze (fun hh => hh e1) tail)
theorem zfz {f : Int} (h : ¬ isF f) (a b : Int) (kk : Int) (x y z : Bool × List Int × Int) :
  Ev (fun k => zi.f k f a b kk x.1 x.2.1 x.2.2 y.1 y.2.1 y.2.2 z.1 z.2.1 z.2.2) 4 := by
 unfold zi.f
 exact Ev.bind (zgb h _ _) (zd (by simp) (zd (by simp) (Ev.now _)))
theorem zhg (x y z : Bool × List Int × Int) : Ev (fun k => zab.f k [x, y, z]) (decide (zr x ∧ zr y ∧ zr z)) := by
 have w0 : wrap64 (0 + 1) = 1 := by unfold wrap64; omega
 have w1 : wrap64 (1 + 1) = 2 := by unfold wrap64; omega
 have w2 : wrap64 (2 + 1) = 3 := by unfold wrap64; omega
 have el : (([x, y, z] : List (Bool × List Int × Int)).length : Int) = 3 := rfl
 have r0 : rdT [.b, .is .u32, .i .i64] [x, y, z] 0 = x := rfl
 have r1 : rdT [.b, .is .u32, .i .i64] [x, y, z] 1 = y := rfl
 have r2 : rdT [.b, .is .u32, .i .i64] [x, y, z] 2 = z := rfl
 have bad : ∀ {d : Bool × List Int × Int} {i : Int} {g : Nat → Option Bool}, 0 ≤ i → i < 3 → ¬ zr d → Ev (fun k => if i < 3 then (if 0 ≤ i then (if i < 3 then (if (d.2.1.length : Int) > 400 then some false else if 0 ≤ i then (if i < 3 then (if d.2.2 < -20000 then some false else if 0 ≤ i then (if i < 3 then (if d.2.2 > 20000 then some false else g k) else none) else none) else none) else none) else none) else none) else some true) false := by
  intro d i g h0 h3 hd
  refine zd h3 (zd h0 (zd h3 ?_))
  by_cases c1 : (d.2.1.length : Int) > 400
  ·exact zd c1 (Ev.now _)
  by_cases c2 : d.2.2 < -20000
  ·exact ze c1 (zd h0 (zd h3 (zd c2 (Ev.now _))))
  by_cases c3 : d.2.2 > 20000
  ·exact ze c1 (zd h0 (zd h3 (ze c2 (zd h0 (zd h3 (zd c3 (Ev.now _)))))))
  exact absurd (⟨by omega, by omega, by omega⟩ : zr d) hd
 have good : ∀ {d : Bool × List Int × Int} {i : Int} {g : Nat → Option Bool} {r : Bool}, 0 ≤ i → i < 3 → zr d → Ev g r → Ev (fun k => if i < 3 then (if 0 ≤ i then (if i < 3 then (if (d.2.1.length : Int) > 400 then some false else if 0 ≤ i then (if i < 3 then (if d.2.2 < -20000 then some false else if 0 ≤ i then (if i < 3 then (if d.2.2 > 20000 then some false else g k) else none) else none) else none) else none) else none) else none) else some true) r := by
  intro d i g r h0 h3 hd hg
  obtain ⟨h1, h2, h4⟩ := hd
  exact zd h3 (zd h0 (zd h3 (ze (by omega) (zd h0 (zd h3 (ze (by omega) (zd h0 (zd h3 (ze (by omega) hg)))))))))
 unfold zab.f
 refine zf ?_; simp only [zab.l0]
 rw [el, r0, w0]
 by_cases hx : zr x
 rotate_left
 ·rw [decide_eq_false (fun hh => hx hh.1)]; exact bad (by omega) (by omega) hx
 refine good (by omega) (by omega) hx ?_
 refine zf ?_; simp only [zab.l0]
 rw [el, r1, w1]
 by_cases hy : zr y
 rotate_left
 ·rw [decide_eq_false (fun hh => hy hh.2.1)]; exact bad (by omega) (by omega) hy
 refine good (by omega) (by omega) hy ?_
 refine zf ?_; simp only [zab.l0]
 rw [el, r2, w2]
 by_cases hz : zr z
 rotate_left
 ·rw [decide_eq_false (fun hh => hz hh.2.2)]; exact bad (by omega) (by omega) hz
 refine good (by omega) (by omega) hz ?_
 rw [decide_eq_true ⟨hx, hy, hz⟩]
 refine zf ?_; simp only [zab.l0]
 rw [el]
 exact ze (by omega) (Ev.now _)
theorem zgJ {f : Int} (h : isF f) {a b : Nat} (ha : a < 18446744073709551616) (hb : b < 18446744073709551616) (kk : Int) {x y z : Bool × List Int × Int} (hx : In x) (hy : In y) (hz : In z) :
  Ev (fun k => zaY.f k f (a : Int) (b : Int) x.1 x.2.1 x.2.2 y.1 y.2.1 y.2.2 z.1 z.2.1 z.2.2 kk) (zah f a b kk x y z) := by
 have hg := zhf h [(a, b)] (by simp) (fun p hp => by rw [List.mem_singleton.1 hp]; exact ⟨ha, hb⟩)
 have mx := zdq (s := x.1) (e := x.2.2) hx.dg (by have := hx.len; omega)
 have my := zdq (s := y.1) (e := y.2.2) hy.dg (by have := hy.len; omega)
 have mz := zdq (s := z.1) (e := z.2.2) hz.dg (by have := hz.len; omega)
 unfold zaY.f zah
 by_cases hw : a < 2 * sg f ∧ b < 2 * sg f
 rotate_left
 ·rw [if_neg (fun hh => hw (hh (a, b) (by simp)))] at hg
  rw [if_pos hw]
  exact Ev.bind hg (zd (by simp) (Ev.now _))
 rw [if_pos (fun p hp => by rw [List.mem_singleton.1 hp]; exact hw)] at hg
 rw [if_neg (fun hh => hh hw)]
 refine Ev.bind hg (ze (by simp) (zh mx ?_))
 by_cases c1 : zn x = true
 rotate_left
 ·rw [if_pos (fun hh => c1 hh.1)]
  exact zd (by unfold zn at c1; simpa using c1) (Ev.now _)
 refine ze (by unfold zn at c1; simpa using c1) (zh my ?_)
 by_cases c2 : zn y = true
 rotate_left
 ·rw [if_pos (fun hh => c2 hh.2.1)]
  exact zd (by unfold zn at c2; simpa using c2) (Ev.now _)
 refine ze (by unfold zn at c2; simpa using c2) (zh mz ?_)
 by_cases c3 : zn z = true
 rotate_left
 ·rw [if_pos (fun hh => c3 hh.2.2.1)]
  exact zd (by unfold zn at c3; simpa using c3) (Ev.now _)
 refine ze (by unfold zn at c3; simpa using c3) ?_
 by_cases c4 : kk < 0
 ·rw [if_pos (fun hh => by have := hh.2.2.2; omega)]
  exact zd c4 (Ev.now _)
 rw [if_neg (fun hh => hh ⟨c1, c2, c3, by omega⟩)]
 have hzm := zdj c3
 refine ze c4 (zh (zcO hzm.dy) ?_)
 by_cases c5 : z.2.1 = []
 ·rw [if_pos c5]
  exact zd ((zcQ hzm.dy).2 c5) (Ev.now _)
 rw [if_neg c5]
 refine ze (fun hh => c5 ((zcQ hzm.dy).1 hh)) (zh (zhd h a b) ?_)
 by_cases c6 : zK f a b
 rotate_left
 ·rw [if_pos c6]
  exact zd (by simpa using c6) (Ev.now _)
 rw [if_neg (fun hh => hh c6)]
 refine ze (by simpa using c6) (Ev.bind (zhg x y z) ?_)
 by_cases c7 : zr x ∧ zr y ∧ zr z
 ·rw [if_pos c7, decide_eq_true c7]
  exact ze (by simp) (Ev.now _)
 ·rw [if_neg c7, decide_eq_false c7]
  exact zd rfl (Ev.now _)
theorem zgI {f : Int} (h : ¬ isF f) (a b : Int) (kk : Int) (x y z : Bool × List Int × Int) : Ev (fun k => zaY.f k f a b x.1 x.2.1 x.2.2 y.1 y.2.1 y.2.2 z.1 z.2.1 z.2.2 kk) 4 := by
 unfold zaY.f
 exact Ev.bind (zhe h _) (zd (by simp) (Ev.now _))
def mkN (p : Int × Int) : Bool × List Int × Int := mk p.1 p.2
def zay (p q : Int × Int) : Int × Int := (p.1 * q.1, p.2 + q.2)
def zdm (p q : Int × Int) : Int × Int := (zcV p.1 p.2 q.1 q.2, min p.2 q.2)
structure Wx (L H : Int) (p : Int × Int) : Prop where
 lo : L ≤ p.2
 hi : p.2 + (bl p.1.natAbs : Nat) ≤ H
theorem Wx.wg {L H : Int} {p : Int × Int} (h : Wx L H p) : Wg L H p.1 p.2 := ⟨fun _ => h.lo, fun _ => h.hi⟩
theorem Wx.mono {L H L' H' : Int} {p : Int × Int} (h : Wx L H p) (h1 : L' ≤ L) (h2 : H ≤ H') : Wx L' H' p := ⟨Int.le_trans h1 h.lo, Int.le_trans h.hi h2⟩
theorem Wx.mul {L H L' H' : Int} {p q : Int × Int} (h : Wx L H p) (k : Wx L' H' q) : Wx (L + L') (H + H') (zay p q) := by
 have h1 := h.lo
 have h2 := h.hi
 have h3 := k.lo
 have h4 := k.hi
 have h5 := zdZ p.1 q.1
 refine ⟨?_, ?_⟩
 ·show _ ≤ p.2 + q.2; omega
 ·show p.2 + q.2 + (bl (p.1 * q.1).natAbs : Nat) ≤ _; omega
theorem Wx.add {L H : Int} {p q : Int × Int} (h : Wx L H p) (k : Wx L H q) : Wx L (H + 1) (zdm p q) := by
 have h1 := h.lo
 have h2 := h.hi
 have h3 := k.lo
 have h4 := k.hi
 have h5 := zfH p.1 p.2 q.1 q.2 (n := (H - min p.2 q.2).toNat) (by omega) (by omega)
 refine ⟨?_, ?_⟩
 ·show _ ≤ min p.2 q.2; omega
 ·show min p.2 q.2 + (bl (zcV p.1 p.2 q.1 q.2).natAbs : Nat) ≤ _; omega
theorem Wx.rg {L H : Int} {p : Int × Int} (h : Wx L H p) (h1 : -1000000 ≤ L) (h2 : H ≤ 1000000) : Rg p.1 p.2 := by
 have h3 := h.lo
 have h4 := h.hi
 exact ⟨by omega, by omega, by omega⟩
theorem Wx.my {L H : Int} {p : Int × Int} (h : Wx L H p) (h1 : -1000000 ≤ L) (h2 : H ≤ 1000000) (h3 : H - L ≤ 130000) : My (mkN p).1 (mkN p).2.1 (mkN p).2.2 := by
 have h4 := h.lo
 have h5 := h.hi
 exact zcK (by omega) (by omega) (by omega)
theorem zcC {L H L' H' : Int} {p q : Int × Int} (h : Wx L H p) (k : Wx L' H' q) (h1 : -1000000 ≤ L) (h2 : H ≤ 1000000) (h3 : -1000000 ≤ L') (h4 : H' ≤ 1000000) (h5 : H - L + (H' - L') ≤ 131000) :
  Ev (fun k => zV.f k (mkN p).1 (mkN p).2.1 (mkN p).2.2 (mkN q).1 (mkN q).2.1 (mkN q).2.2) (mkN (zay p q)) := by
 have a1 := h.lo
 have a2 := h.hi
 have b1 := k.lo
 have b2 := k.hi
 unfold zV.f
 exact Ev.bind (zgO (by omega) (by omega) (by omega) (by omega) (by omega)) (Ev.now _)
theorem zga {L H : Int} (w : Wk L H) {p q : Int × Int} (h : Wx L H p) (k : Wx L H q) :
  Ev (fun k => zbK.f k (mkN p).1 (mkN p).2.1 (mkN p).2.2 (mkN q).1 (mkN q).2.1 (mkN q).2.2) (mkN (zdm p q)) := by
 unfold zbK.f
 exact Ev.bind (zhG w h.wg k.wg) (Ev.now _)
def sqN (p q : Int × Int) : Int × Int := zdm (zay p p) (zay q q)
theorem zgd {L H : Int} (h1 : -100000 ≤ L) (h2 : H ≤ 100000) (h3 : H - L ≤ 65000) {p q : Int × Int} (h : Wx L H p) (k : Wx L H q) :
  Ev (fun k => zaP.f k (mkN p).1 (mkN p).2.1 (mkN p).2.2 (mkN q).1 (mkN q).2.1 (mkN q).2.2) (mkN (sqN p q)) := by
 unfold zaP.f
 refine Ev.bind (zcC h h (by omega) (by omega) (by omega) (by omega) (by omega)) (Ev.bind (zcC k k (by omega) (by omega) (by omega) (by omega) (by omega)) (Ev.bind (zga ⟨by omega, by omega, by omega⟩ (h.mul h) (k.mul k)) (Ev.now _)))
theorem zhs {L H : Int} {p q : Int × Int} (h : Wx L H p) (k : Wx L H q) : Wx (L + L) (H + H + 1) (sqN p q) := (h.mul h).add (k.mul k)
theorem zgQ {f : Int} (h : isF f) : zbm.f f = some ((fb f + 1 : Nat) : Int) := by rcases h with rfl | rfl <;> rfl
theorem zhh {L H : Int} (h1 : -100000 ≤ L) (h2 : H ≤ 100000) {p q : Int × Int} (h : Wx L H p) (k : Wx L H q) :
  Ev (fun k => zbJ.f k (mkN p).1 (mkN p).2.1 (mkN p).2.2 (mkN q).1 (mkN q).2.1 (mkN q).2.2) (mkN (sqN p q)) := by
 have r1 := h.rg (by omega) (by omega)
 have r2 := k.rg (by omega) (by omega)
 have r3 := (h.mul h).rg (by omega) (by omega)
 have r4 := (k.mul k).rg (by omega) (by omega)
 unfold zbJ.f
 exact Ev.bind (zcM r1 r1) (Ev.bind (zcM r2 r2) (Ev.bind (zgR r3 r4) (Ev.now _)))
def Gz (p : Int × Int) : Prop := Wx (-20000) 32800 p
theorem zef {f : Int} (h : isF f) : 23 ≤ fb f ∧ fb f ≤ 52 := by rcases h with rfl | rfl <;> decide
theorem zee {re im : Int × Int} (hr : Gz re) (hi : Gz im) : Wx (-40000) 65601 (sqN re im) := (zhs hr hi).mono (by omega) (by omega)
theorem zdg {d : Bool × List Int × Int} (hm : zn d = true) (hs : zr d) : ∃ p, d = mkN p ∧ Gz p ∧ (p.1 = 0 ↔ d.2.1 = []) := by
 have hy := zdj hm
 obtain ⟨h1, h2, h3⟩ := hs
 have hb := zaW hy.dy.nm.dg
 refine ⟨(sv d.1 (V d.2.1), d.2.2), (zcI hy.dy).symm, ⟨h2, ?_⟩, ?_⟩
 ·show d.2.2 + (bl (sv d.1 (V d.2.1)).natAbs : Nat) ≤ 32800
  rw [zaR]; omega
 ·show sv d.1 (V d.2.1) = 0 ↔ _
  rw [za8]
  constructor
  ·intro h0
   by_cases c : d.2.1 = []
   ·exact c
   ·have := hy.dy.odd c; omega
  ·intro c; rw [c]; rfl
theorem zfy {f : Int} {a b : Nat} {k : Int} {x y z : Bool × List Int × Int} (h : zah f a b k x y z = 0) :
  (a < 2 * sg f ∧ b < 2 * sg f) ∧ zK f a b ∧ 0 ≤ k ∧ ∃ p q r, x = mkN p ∧ y = mkN q ∧ z = mkN r ∧ Gz p ∧ Gz q ∧ Gz r ∧ r.1 ≠ 0 := by
 unfold zah at h
 by_cases c1 : a < 2 * sg f ∧ b < 2 * sg f
 rotate_left; · rw [if_pos c1] at h; cases h
 rw [if_neg (fun hh => hh c1)] at h
 by_cases c2 : zn x = true ∧ zn y = true ∧ zn z = true ∧ 0 ≤ k
 rotate_left; · rw [if_pos c2] at h; cases h
 rw [if_neg (fun hh => hh c2)] at h
 by_cases c3 : z.2.1 = []
 ·rw [if_pos c3] at h; cases h
 rw [if_neg c3] at h
 by_cases c4 : zK f a b
 rotate_left; · rw [if_pos c4] at h; cases h
 rw [if_neg (fun hh => hh c4)] at h
 by_cases c5 : zr x ∧ zr y ∧ zr z
 rotate_left; · rw [if_neg c5] at h; cases h
 obtain ⟨p, p1, p2, _⟩ := zdg c2.1 c5.1
 obtain ⟨q, q1, q2, _⟩ := zdg c2.2.1 c5.2.1
 obtain ⟨r, r1, r2, r3⟩ := zdg c2.2.2.1 c5.2.2
 exact ⟨c1, c4, c2.2.2.2, p, q, r, p1, q1, r1, p2, q2, r2, fun hh => c3 (r3.1 hh)⟩
def zeW (f : Int) (re im den : Int × Int) : Bool := decide (zj (sqN re im).1 (sqN re im).2 (zay (zay (1, lo f + ((fb f + 64 : Nat) : Int)) den) (zay (1, lo f + ((fb f + 64 : Nat) : Int)) den)).1 (zay (zay (1, lo f + ((fb f + 64 : Nat) : Int)) den) (zay (1, lo f + ((fb f + 64 : Nat) : Int)) den)).2 ≥ 0)
theorem zdn {f : Int} (h : isF f) : Wx (-1100) 100 ((1, lo f + ((fb f + 64 : Nat) : Int)) : Int × Int) := by
 have h1 : bl (1 : Int).natAbs = 1 := by decide
 rcases h with rfl | rfl
 ·exact ⟨by decide, by show lo 1 + ((fb 1 + 64 : Nat) : Int) + (bl (1 : Int).natAbs : Nat) ≤ 100; rw [h1]; decide⟩
 ·exact ⟨by decide, by show lo 2 + ((fb 2 + 64 : Nat) : Int) + (bl (1 : Int).natAbs : Nat) ≤ 100; rw [h1]; decide⟩
theorem zej {f : Int} (h : isF f) {den : Int × Int} (hd : Gz den) : Wx (-21100) 32900 (zay (1, lo f + ((fb f + 64 : Nat) : Int)) den) := ((zdn h).mul hd).mono (by omega) (by omega)
theorem zhC {f : Int} (h : isF f) : Ev (fun k => zcj.f k f 0) (false, [1], lo f, 0) := by
 rcases h with rfl | rfl
 ·refine ⟨100, fun k hk => ?_⟩
  obtain ⟨m, rfl⟩ : ∃ m, k = m + 100 := ⟨k - 100, by omega⟩
  kernel_rfl
 ·refine ⟨100, fun k hk => ?_⟩
  obtain ⟨m, rfl⟩ : ∃ m, k = m + 100 := ⟨k - 100, by omega⟩
  kernel_rfl
theorem zf8 {f : Int} (h : isF f) {x y z : Bool × List Int × Int} (hx : In x) (hy : In y) (hz : In z) (hn : zah f 0 0 0 x y z ≠ 0) :
  Ev (fun k => zaE.f k f x.1 x.2.1 x.2.2 y.1 y.2.1 y.2.2 z.1 z.2.1 z.2.2) (false, zah f 0 0 0 x y z) := by
 unfold zaE.f
 exact Ev.bind (zdR h 0 0 0 hx hy hz) (zd hn (Ev.now _))
theorem zf7 {f : Int} (h : ¬ isF f) (x y z : Bool × List Int × Int) : Ev (fun k => zaE.f k f x.1 x.2.1 x.2.2 y.1 y.2.1 y.2.2 z.1 z.2.1 z.2.2) (false, 4) := by
 unfold zaE.f
 exact Ev.bind (zfz h 0 0 0 x y z) (zd (by simp) (Ev.now _))
theorem zf9 {f : Int} (h : isF f) {re im den : Int × Int} (hx : In (mkN re)) (hy : In (mkN im)) (hz : In (mkN den)) (hr : Gz re) (hi : Gz im) (hd : Gz den) (h0 : zah f 0 0 0 (mkN re) (mkN im) (mkN den) = 0) :
  Ev (fun k => zaE.f k f (mkN re).1 (mkN re).2.1 (mkN re).2.2 (mkN im).1 (mkN im).2.1 (mkN im).2.2 (mkN den).1 (mkN den).2.1 (mkN den).2.2) (zeW f re im den, 0) := by
 have ha := zdR h 0 0 0 hx hy hz
 rw [h0] at ha
 have hF := zef h
 have e1 : wrap64 (((fb f + 1 : Nat) : Int) - 1) = (fb f : Int) := by unfold wrap64; omega
 have e2 : wrap64 ((fb f : Int) + 64) = ((fb f + 64 : Nat) : Int) := by unfold wrap64; omega
 have m1 : My false [1] (lo f) := by
  have := zcK (z := 1) (e := lo f) (by decide) (by rcases h with rfl | rfl <;> decide) (by rcases h with rfl | rfl <;> decide)
  rw [zeo] at this
  exact this
 have hlo : -2000 ≤ lo f ∧ lo f ≤ 0 := by rcases h with rfl | rfl <;> decide
 have hs := zfZ m1 (n := ((fb f + 64 : Nat) : Int)) (by omega) (by omega) (by omega)
 have e3 : ok3 (mk (sv false (V [1])) (lo f + ((fb f + 64 : Nat) : Int))) = ok3 (mkN (1, lo f + ((fb f + 64 : Nat) : Int))) := rfl
 rw [e3] at hs
 have lw := zej h hd
 unfold zaE.f
 refine Ev.bind ha (ze (fun hh => hh rfl) (Ev.bind (zhC h) (zh (zgQ h) ?_)))
 rw [e1, e2]
 clear e1 e2
 refine zh hs (Ev.bind (zcC (zdn h) hd (by omega) (by omega) (by omega) (by omega) (by omega)) (Ev.bind (zgd (L := -20000) (H := 32800) (by omega) (by omega) (by omega) hr hi) (Ev.bind (zcC lw lw (by omega) (by omega) (by omega) (by omega) (by omega)) (Ev.bind (zhH (L := -42200) (H := 65900) ⟨by omega, by omega, by omega⟩ ((zee hr hi).mono (by omega) (by omega)).wg ((lw.mul lw).mono (by omega) (by omega)).wg) ?_))))
 exact Ev.now _
theorem zgW {f : Int} (h : isF f) {re im den : Int × Int} (hr : Gz re) (hi : Gz im) (hd : Gz den) :
  Ev (fun k => zbI.f k f (mkN re).1 (mkN re).2.1 (mkN re).2.2 (mkN im).1 (mkN im).2.1 (mkN im).2.2 (mkN den).1 (mkN den).2.1 (mkN den).2.2) (zeW f re im den) := by
 have hF := zef h
 have hlo : -2000 ≤ lo f ∧ lo f ≤ 0 := by rcases h with rfl | rfl <;> decide
 have e1 : wrap64 (lo f + (fb f : Int)) = lo f + (fb f : Int) := by unfold wrap64; omega
 have e2 : wrap64 (lo f + (fb f : Int) + 64) = lo f + ((fb f + 64 : Nat) : Int) := by unfold wrap64; omega
 have lw := zej h hd
 have r1 := (zdn h).rg (by omega) (by omega)
 have r2 := hd.rg (by omega) (by omega)
 have r3 := lw.rg (by omega) (by omega)
 have r4 := (lw.mul lw).rg (by omega) (by omega)
 have r5 := (zee hr hi).rg (by omega) (by omega)
 unfold zbI.f
 refine zh (zgU h) (zh (zeE h) ?_)
 rw [e1, e2]
 clear e1 e2
 refine zh (zgZ _) (Ev.bind (zcM r1 r2) (Ev.bind (zhh (L := -20000) (H := 32800) (by omega) (by omega) hr hi) (Ev.bind (zcM r3 r3) (Ev.bind (zgT r5 r4) ?_))))
 exact Ev.now _
theorem zgn {x y z : Bool × List Int × Int} (hx : x.2.1.length ≤ 140737488355328) (hy : y.2.1.length ≤ 140737488355328) (hz : z.2.1.length ≤ 140737488355328) : zby.f x.1 x.2.1 x.2.2 y.1 y.2.1 y.2.2 z.1 z.2.1 z.2.2 = some (decide (x.2.1.length + y.2.1.length + z.2.1.length > 1300)) := by
 unfold zby.f
 have e1 : wrap64 ((x.2.1.length : Int) + (y.2.1.length : Int)) = ((x.2.1.length + y.2.1.length : Nat) : Int) := by unfold wrap64; omega
 have e2 : wrap64 (((x.2.1.length + y.2.1.length : Nat) : Int) + (z.2.1.length : Int)) = ((x.2.1.length + y.2.1.length + z.2.1.length : Nat) : Int) := by unfold wrap64; omega
 rw [e1, e2]
 clear e1 e2
 congr 1
 exact decide_eq_decide.2 (by omega)
theorem zfp (f : Int) {x y z : Bool × List Int × Int} (dx : Dg x.2.1) (dy : Dg y.2.1) (dz : Dg z.2.1) (hx : x.2.1.length ≤ 140737488355328) (hy : y.2.1.length ≤ 140737488355328) (hz : z.2.1.length ≤ 140737488355328) :
  Ev (fun k => zbx.f k f x.1 x.2.1 x.2.2 y.1 y.2.1 y.2.2 z.1 z.2.1 z.2.2) true := by
 unfold zbx.f
 refine zh (zgn hx hy hz) ?_
 by_cases c : x.2.1.length + y.2.1.length + z.2.1.length > 1300
 ·exact zd (decide_eq_true c) (Ev.bind zcD (Ev.now _))
 refine ze (by simpa using c) ?_
 have ix : In x := ⟨dx, by omega⟩
 have iy : In y := ⟨dy, by omega⟩
 have iz : In z := ⟨dz, by omega⟩
 by_cases h : isF f
 rotate_left
 ·exact Ev.bind (zf7 h x y z) (Ev.bind (zgI h _ _ _ x y z) (zd (by simp) (zd rfl (zd rfl (Ev.bind zcD (Ev.now _))))))
 have ho := zgJ h (a := 0) (b := 0) (by omega) (by omega) 0 ix iy iz
 by_cases h0 : zah f 0 0 0 x y z = 0
 ·obtain ⟨_, _, _, p, q, r, rfl, rfl, rfl, hp, hq, hr, _⟩ := zfy h0
  rw [h0] at ho
  exact Ev.bind (zf9 h ix iy iz hp hq hr h0) (Ev.bind ho (ze (fun hh => hh rfl) (Ev.bind (zgW h hp hq hr) (zd rfl (zd rfl (Ev.bind zcD (Ev.now _)))))))
 ·exact Ev.bind (zf8 h ix iy iz h0) (Ev.bind ho (zd h0 (zd rfl (zd rfl (Ev.bind zcD (Ev.now _))))))
theorem zfo (f : Int) (p0 p1 p2 : Bool) (l0 l1 l2 : List Int) (e0 e1 e2 : Int) (h0 : ∀ n ∈ l0, (Lit.int .u32 n).wf = true) (h1 : ∀ n ∈ l1, (Lit.int .u32 n).wf = true) (h2 : ∀ n ∈ l2, (Lit.int .u32 n).wf = true) (n0 : l0.length ≤ 140737488355328) (n1 : l1.length ≤ 140737488355328) (n2 : l2.length ≤ 140737488355328) :
  Ev (fun k => zbx.f k f p0 l0 e0 p1 l1 e1 p2 l2 e2) true :=
 zfp f (x := (p0, l0, e0)) (y := (p1, l1, e1)) (z := (p2, l2, e2)) (Dg.wf h0) (Dg.wf h1) (Dg.wf h2) n0 n1 n2
end Go.Proofs.YtioialhbjmnndaaGreatDoor.Eng.K
