import Derived.Test.YtioialhbjmnndaaDoorQGaugeLeastF1
import Derived.Laws.BitsAllLaws
import Derived.KernelRfl
set_option linter.unusedVariables false
set_option linter.unusedSimpArgs false
namespace Go.Proofs.YtioialhbjmnndaaDoor.Eng
def Ev {α : Type} (g : Nat → Option α) (r : α) : Prop := ∃ n, ∀ k, n ≤ k → g k = some r
theorem Ev.now {α : Type} (r : α) : Ev (fun _ => some r) r := ⟨0, fun _ _ => rfl⟩
theorem Ev.bind {α β : Type} {g : Nat → Option α} {f : Nat → α → Option β} {a : α} {r : β} (h : Ev g a) (k : Ev (fun n => f n a) r) : Ev (fun n => (g n).bind (f n)) r := by
 obtain ⟨n, hn⟩ := h
 obtain ⟨m, hm⟩ := k
 exact ⟨n + m, fun i hi => by show (g i).bind (f i) = some r; rw [hn i (by omega), Option.bind_some]; exact hm i (by omega)⟩
theorem Ev.step {α : Type} {g f : Nat → Option α} {r : α} (h : ∀ k, g (k + 1) = f k) (k : Ev f r) : Ev g r := by
 obtain ⟨n, hn⟩ := k
 refine ⟨n + 1, fun i hi => ?_⟩
 obtain ⟨i, rfl⟩ : ∃ j, i = j + 1 := ⟨i - 1, by omega⟩
 rw [h]; exact hn i (by omega)
end Go.Proofs.YtioialhbjmnndaaDoor.Eng
namespace Go.Proofs.YtioialhbjmnndaaDoor.Eng.K
open Go.RowKit
theorem w64 {n : Int} (h0 : -9223372036854775808 ≤ n) (h1 : n < 9223372036854775808) : wrap64 n = n := by unfold wrap64; omega
theorem z8 {n : Int} (h0 : 0 ≤ n) (h1 : n < 9223372036854775808) : wrap64 n = n := by unfold wrap64; omega
theorem u64 {n : Int} (h0 : 0 ≤ n) (h1 : n < 18446744073709551616) : IntKind.u64.wrap n = n := by
 simp [IntKind.wrap, IntKind.bits, IntKind.signed]; omega
theorem zay (n : Int) : IntKind.u64.wrap n = n % 18446744073709551616 := by
 simp [IntKind.wrap, IntKind.bits, IntKind.signed]
theorem rdn (xs : List Int) (n : Nat) : rd xs (n : Int) = xs.getD n 0 := by simp [rd]
theorem zak {xs ys : List Int} {y : Int} {i : Int} (h : i = (xs.length : Int)) : rd (xs ++ y :: ys) i = y := by
 subst h; simp [rd]
theorem zbx {xs ys : List Int} {y z : Int} {i : Int} (h : i = (xs.length : Int)) : (xs ++ y :: ys).set i.toNat z = (xs ++ [z]) ++ ys := by
 subst h; simp
theorem zg {α : Type} {g : Nat → Option α} {r s : α} (h : Ev g r) (e : r = s) : Ev g s := e ▸ h
theorem zgl {α : Type} {x : Option α} {r : α} (h : x = some r) : Ev (fun _ => x) r := by subst h; exact Ev.now r
theorem zd {α : Type} {c : Prop} {_ : Decidable c} {g f : Nat → Option α} {r : α} (h : c) (k : Ev g r) : Ev (fun n => if c then g n else f n) r := by
 simpa [h] using k
theorem ze {α : Type} {c : Prop} {_ : Decidable c} {g f : Nat → Option α} {r : α} (h : ¬ c) (k : Ev f r) : Ev (fun n => if c then g n else f n) r := by
 simpa [h] using k
theorem ep {α : Type} {c : Prop} {_ : Decidable c} {g f : Nat → Option α} {r : α} (k : Ev g r) (h : c := by (first | omega | assumption | (simp; done) | (simp; omega))) : Ev (fun n => if c then g n else f n) r := zd h k
theorem en {α : Type} {c : Prop} {_ : Decidable c} {g f : Nat → Option α} {r : α} (k : Ev f r) (h : ¬ c := by (first | omega | assumption | (simp; done) | (simp; omega))) : Ev (fun n => if c then g n else f n) r := ze h k
theorem zh {α β : Type} {x : Option α} {f : Nat → α → Option β} {a : α} {r : β} (h : x = some a) (k : Ev (fun n => f n a) r) : Ev (fun n => x.bind (f n)) r := by
 subst h; exact k
theorem zf {α : Type} {g : Nat → Option α} {r : α} (k : Ev (fun n => g (n + 1)) r) : Ev g r := Ev.step (fun _ => rfl) k
theorem Ev.unique {α : Type} {g : Nat → Option α} {r s : α} (h : Ev g r) (k : Ev g s) : r = s := by
 obtain ⟨a, ha⟩ := h; obtain ⟨b, hb⟩ := k
 have h1 := ha (max a b) (Nat.le_max_left _ _); have h2 := hb (max a b) (Nat.le_max_right _ _)
 rw [h1] at h2; exact Option.some.inj h2
def Dg (l : List Int) : Prop := ∀ x ∈ l, 0 ≤ x ∧ x < 4294967296
def V : List Int → Nat
 | [] => 0
 | d :: l => d.toNat + 4294967296 * V l
def D (n : Nat) : List Int := if h : n = 0 then [] else ((n % 4294967296 : Nat) : Int) :: D (n / 4294967296)
termination_by n
decreasing_by omega
theorem Dg.nil : Dg [] := fun _ h => by simp at h
theorem Dg.cons {d : Int} {l : List Int} (h0 : 0 ≤ d) (h1 : d < 4294967296) (h : Dg l) : Dg (d :: l) := fun x hx => by
 rcases List.mem_cons.1 hx with rfl | hx
 ·exact ⟨h0, h1⟩
 ·exact h x hx
theorem Dg.head {d : Int} {l : List Int} (h : Dg (d :: l)) : 0 ≤ d ∧ d < 4294967296 := h d (by simp)
theorem Dg.tail {d : Int} {l : List Int} (h : Dg (d :: l)) : Dg l := fun x hx => h x (by simp [hx])
theorem Dg.app {a b : List Int} (h : Dg a) (k : Dg b) : Dg (a ++ b) := fun x hx => by
 rcases List.mem_append.1 hx with hx | hx
 ·exact h x hx
 ·exact k x hx
theorem Dg.left {a b : List Int} (h : Dg (a ++ b)) : Dg a := fun x hx => h x (by simp [hx])
theorem Dg.right {a b : List Int} (h : Dg (a ++ b)) : Dg b := fun x hx => h x (by simp [hx])
theorem Dg.take {a : List Int} (h : Dg a) (n : Nat) : Dg (a.take n) := fun x hx => h x (List.mem_of_mem_take hx)
theorem Dg.drop {a : List Int} (h : Dg a) (n : Nat) : Dg (a.drop n) := fun x hx => h x (List.mem_of_mem_drop hx)
theorem Dg.zeros (n : Nat) : Dg (List.replicate n 0) := fun x hx => by
 obtain ⟨_, rfl⟩ := List.mem_replicate.1 hx; omega
theorem Dg.getD {a : List Int} (h : Dg a) (n : Nat) : 0 ≤ a.getD n 0 ∧ a.getD n 0 < 4294967296 := by
 rw [List.getD_eq_getElem?_getD]
 cases e : a[n]? with
 | none => simp
 | some x => simpa using h x (List.mem_of_getElem? e)
theorem Dg.rd {a : List Int} (h : Dg a) (i : Int) : 0 ≤ rd a i ∧ rd a i < 4294967296 := h.getD i.toNat
theorem Dg.set {a : List Int} (h : Dg a) (n : Nat) {x : Int} (h0 : 0 ≤ x) (h1 : x < 4294967296) : Dg (a.set n x) := fun y hy => by
 rcases List.mem_or_eq_of_mem_set hy with hy | rfl
 ·exact h y hy
 ·exact ⟨h0, h1⟩
theorem Dg.wf {a : List Int} (h : ∀ x ∈ a, (Lit.int .u32 x).wf = true) : Dg a := fun x hx => by
 have := h x hx
 simp [Lit.wf, IntKind.min, IntKind.max, IntKind.signed, IntKind.bits] at this
 omega
@[simp] theorem zU : V [] = 0 := rfl
@[simp] theorem zq (d : Int) (l : List Int) : V (d :: l) = d.toNat + 4294967296 * V l := rfl
theorem zaK (a b : List Int) : V (a ++ b) = V a + 4294967296 ^ a.length * V b := by
 induction a with
 | nil => simp
 | cons d a ih => simp [ih, Nat.pow_succ]; grind
theorem zcW (n : Nat) : V (List.replicate n 0) = 0 := by
 induction n with
 | zero => rfl
 | succ n ih => simp [List.replicate_succ, ih]
theorem zaL {l : List Int} (h : Dg l) : V l < 4294967296 ^ l.length := by
 induction l with
 | nil => simp
 | cons d l ih =>
  have := ih h.tail; have := h.head
  simp only [zq, List.length_cons, Nat.pow_succ]
  omega
theorem zH : D 0 = [] := by unfold D; simp
theorem zbE {n : Nat} (h : n ≠ 0) : D n = ((n % 4294967296 : Nat) : Int) :: D (n / 4294967296) := by
 conv => lhs; unfold D
 simp [h]
theorem V_D (n : Nat) : V (D n) = n := by
 induction n using Nat.strongRecOn with
 | _ n ih =>
  by_cases h : n = 0
  ·subst h; simp [zH]
  ·rw [zbE h, zq, ih _ (by omega)]; omega
theorem zdD (n : Nat) : Dg (D n) := by
 induction n using Nat.strongRecOn with
 | _ n ih =>
  by_cases h : n = 0
  ·subst h; rw [zH]; exact Dg.nil
  ·rw [zbE h]; exact Dg.cons (by omega) (by omega) (ih _ (by omega))
theorem zcQ {d : Int} {n : Nat} (h0 : 0 ≤ d) (h1 : d < 4294967296) (h : d ≠ 0 ∨ n ≠ 0) : D (d.toNat + 4294967296 * n) = d :: D n := by
 rw [zbE (by omega)]
 congr 1
 ·omega
 ·congr 1; omega
def Nm (l : List Int) : Prop := D (V l) = l
instance (l : List Int) : Decidable (Nm l) := inferInstanceAs (Decidable (D (V l) = l))
theorem Nm.dg {l : List Int} (h : Nm l) : Dg l := h ▸ zdD _
theorem zC (n : Nat) : Nm (D n) := by unfold Nm; rw [V_D]
theorem zaV : Nm [] := by unfold Nm; exact zH
theorem Nm.inj {a b : List Int} (h : Nm a) (k : Nm b) (e : V a = V b) : a = b := by rw [← h, e, k]
theorem zb7 {l : List Int} (h : Nm l) : V l = 0 ↔ l = [] := by
 constructor
 ·intro e; rw [← h, e, zH]
 ·rintro rfl; rfl
theorem zcT {l : List Int} {d : Int} (h : Dg l) (h0 : 0 < d) (h1 : d < 4294967296) : Nm (l ++ [d]) := by
 unfold Nm
 induction l with
 | nil =>
  have := zcQ (d := d) (n := 0) (by omega) h1 (by omega)
  simpa [zH] using this
 | cons x l ih =>
  have hx := h.head
  rw [List.cons_append, zq, zcQ hx.1 hx.2, ih h.tail]
  right; rw [zaK]
  have : 0 < 4294967296 ^ l.length := Nat.pow_pos (by omega)
  have : 0 < 4294967296 ^ l.length * V [d] := Nat.mul_pos this (by simp; omega)
  omega
theorem zcU (l : List Int) : V (l ++ [0]) = V l := by rw [zaK]; simp
theorem zfy {l : List Int} (h : Dg l) : (D (V l)).length ≤ l.length := by
 induction l with
 | nil => simp [zH]
 | cons x l ih =>
  have hx := h.head
  by_cases e : x ≠ 0 ∨ V l ≠ 0
  ·rw [zq, zcQ hx.1 hx.2 e]; simpa using ih h.tail
  ·have h1 : x = 0 := by omega
   have h2 : V l = 0 := by omega
   simp [h1, h2, zH]
theorem zdH {l : List Int} {d : Int} (h : Nm (l ++ [d])) : d ≠ 0 := by
 intro e; subst e
 have h2 := zfy h.dg.left
 have h3 : D (V (l ++ [0])) = l ++ [0] := h
 rw [zcU] at h3
 rw [h3] at h2
 simp at h2
 omega
theorem zdG {l : List Int} (h : Dg l) : Nm l ↔ l = [] ∨ l.getD (l.length - 1) 0 ≠ 0 := by
 rcases List.eq_nil_or_concat l with rfl | ⟨a, d, rfl⟩
 ·simp [zaV]
 ·rw [List.concat_eq_append] at h ⊢
  have : (a ++ [d]).getD ((a ++ [d]).length - 1) 0 = d := by simp
  rw [this]
  constructor
  ·intro k; exact .inr (zdH k)
  ·rintro (k | k)
   ·simp at k
   ·have := h d (by simp)
    exact zcT h.left (by omega) this.2
theorem zdB {n k : Nat} (h : n < 4294967296 ^ k) : (D n).length ≤ k := by
  induction k generalizing n with
  | zero => have : n = 0 := by simpa using h
            subst this; simp [zH]
  | succ k ih =>
    by_cases e : n = 0
    · subst e; simp [zH]
    · rw [zbE e, List.length_cons]
      have := ih (n := n / 4294967296) (by rw [Nat.pow_succ] at h; omega)
      omega
theorem zcE (n : Nat) : n < 4294967296 ^ (D n).length := by
 have := zaL (zdD n); rwa [V_D] at this
theorem zfx {n : Nat} (h : n ≠ 0) : 4294967296 ^ ((D n).length - 1) ≤ n := by
 apply Nat.le_of_not_lt
 intro k
 have := zdB k
 have : (D n).length ≠ 0 := by rw [zbE h]; simp
 omega
theorem zdC {a b : Nat} (h : a ≤ b) : (D a).length ≤ (D b).length :=
 zdB (Nat.lt_of_le_of_lt h (zcE b))
theorem zgH {a b : Nat} (h : (D a).length < (D b).length) : a < b := by
 apply Nat.lt_of_not_le
 intro k
 have := zdC k
 omega
theorem Nm.len {l : List Int} (h : Nm l) : (D (V l)).length = l.length := by rw [h]
theorem Nm.lt_of_len {a b : List Int} (h : Nm a) (k : Nm b) (e : a.length < b.length) : V a < V b := by
 apply zgH; rw [h, k]; exact e
theorem zal {n : Nat} (h : n < 4611686018427387904) : wrap64 ((n : Int) + 1) = ((n + 1 : Nat) : Int) := by unfold wrap64; omega
theorem zfp {n : Nat} (h : n < 4611686018427387904) : wrap64 (((n + 1 : Nat) : Int) - 1) = (n : Int) := by unfold wrap64; omega
theorem zfk : ∀ (n : Nat) (l : List Int), l.length = n → Dg l → n < 4611686018427387904 → Ev (fun k => zk.f k l) (D (V l))
 | 0, l, hn, hd, hb => by
  have : l = [] := List.eq_nil_of_length_eq_zero hn
  subst this
  refine zf (zgl ?_)
  simp [zk.f, zk.l0, zH]
 | n + 1, l, hn, hd, hb => by
  rcases List.eq_nil_or_concat l with rfl | ⟨a, d, rfl⟩
  ·simp at hn
  rw [List.concat_eq_append] at hn hd ⊢
  have hl : (a ++ [d]).length = n + 1 := hn
  have ha : a.length = n := by simpa using hn
  refine zf ?_
  show Ev (fun k => zk.l0 (k + 1) (a ++ [d])) _
  simp only [zk.l0, hl, zfp (n := n) (by omega)]
  refine zd (by omega) (zd (by omega) (zd (by omega) ?_))
  rw [zak (by omega)]
  by_cases h0 : d = 0
  ·subst h0
   refine zd rfl (zd (by omega) ?_)
   rw [zcU]
   have : (a ++ [(0 : Int)]).take (n : Int).toNat = a := by simp [← ha]
   rw [this]
   exact zd (by omega) (zfk n a ha hd.left (by omega))
  ·refine ze h0 ?_
   have := hd d (by simp)
   rw [zcT hd.left (by omega) this.2]
   exact Ev.now _
theorem zbY {l : List Int} (hd : Dg l) (hb : l.length < 4611686018427387904) : Ev (fun k => zk.f k l) (D (V l)) := zfk _ l rfl hd hb
theorem ze4 (l : List Int) (hd : Dg l) (hb : l.length < 4611686018427387904) : ∀ (n : Nat) (a b : List Int), a.length = n → l = a ++ b → V b = 0 → Ev (fun k => zx.l0 k l n) (D (V l))
 | 0, a, b, hn, he, h0 => by
  have : a = [] := List.eq_nil_of_length_eq_zero hn
  subst this
  refine zf ?_
  simp only [zx.l0]
  refine ze (by omega) (zd (by omega) (zd (by omega) ?_))
  rw [he]; simp [h0, zH]; exact Ev.now _
 | n + 1, a, b, hn, he, h0 => by
  rcases List.eq_nil_or_concat a with rfl | ⟨a, d, rfl⟩
  ·simp at hn
  rw [List.concat_eq_append] at hn he
  have ha : a.length = n := by simpa using hn
  have hl : l.length = n + 1 + b.length := by rw [he]; simp [ha]; omega
  refine zf ?_
  simp only [zx.l0, zfp (n := n) (by omega)]
  refine zd (by omega) (zd (by omega) (zd (by omega) ?_))
  have hr : rd l n = d := by rw [he, List.append_assoc]; exact zak (by omega)
  rw [hr]
  by_cases hz : d = 0
  ·refine zd hz ?_
   exact ze4 l hd hb n a (d :: b) ha (by rw [he]; simp) (by simp [h0, hz])
  ·refine ze hz (zd (by omega) (zd (by omega) ?_))
   have hd2 := hd
   rw [he] at hd2
   have h1 := hd2.left d (by simp)
   have h2 : V l = V (a ++ [d]) := by rw [he, zaK (a ++ [d]) b, h0]; simp
   have h3 : l.take ((n + 1 : Nat) : Int).toNat = a ++ [d] := by
    rw [he, Int.toNat_natCast]; exact List.take_left' (by simp [ha])
   rw [h3, h2, zcT hd2.left.left (by omega) h1.2]
   exact Ev.now _
theorem zdp {l : List Int} (hd : Dg l) (hb : l.length < 4611686018427387904) : Ev (fun k => zx.f k l) (D (V l)) :=
 ze4 l hd hb l.length l [] rfl (by simp) rfl
theorem zdO (n : Int) (h0 : 0 ≤ n) (h1 : n < 18446744073709551616) : V [n % 4294967296, (n / 4294967296) % 4294967296] = n.toNat := by
 simp; omega
theorem zdE (n : Int) : Dg [n % 4294967296, (n / 4294967296) % 4294967296] := Dg.cons (by omega) (by omega) (Dg.cons (by omega) (by omega) Dg.nil)
theorem zdj {n : Int} (h0 : 0 ≤ n) (h1 : n < 18446744073709551616) : Ev (fun k => zaq.f k n) (D n.toNat) := by
 unfold zaq.f
 refine Ev.bind (zbY (zdE n) (by simp)) ?_
 rw [zdO n h0 h1]; exact Ev.now _
theorem zho {n : Int} (h0 : 0 ≤ n) (h1 : n < 18446744073709551616) : Ev (fun k => zaN.f k n) (D n.toNat) := by
 unfold zaN.f
 refine Ev.bind (zdp (zdE n) (by simp)) ?_
 rw [zdO n h0 h1]; exact Ev.now _
theorem ze5 (x y : List Int) (hl : x.length = y.length) (hb : x.length < 4611686018427387904) : ∀ (d n : Nat), n + d = x.length → Ev (fun k => zam.l0 k x y n) (decide (x.drop n = y.drop n))
 | 0, n, h => by
  refine zf ?_
  simp only [zam.l0]
  refine ze (by omega) ?_
  rw [List.drop_eq_nil_of_le (by omega), List.drop_eq_nil_of_le (by omega)]
  exact Ev.now _
 | d + 1, n, h => by
  refine zf ?_
  simp only [zam.l0, zal (n := n) (by omega)]
  refine zd (by omega) (zd (by omega) (zd (by omega) (zd (by omega) (zd (by omega) ?_))))
  have hx : n < x.length := by omega
  have hy : n < y.length := by omega
  have e1 : rd x n = x[n] := by rw [rdn]; simp [hx]
  have e2 : rd y n = y[n] := by rw [rdn]; simp [hy]
  have d1 := List.drop_eq_getElem_cons hx
  have d2 := List.drop_eq_getElem_cons hy
  rw [e1, e2]
  by_cases he : x[n] = y[n]
  ·refine ze (fun h => h he) ?_
   refine zg (ze5 x y hl hb d (n + 1) (by omega)) ?_
   exact decide_eq_decide.2 ⟨fun h => by rw [d1, d2, he, h], fun h => by rw [d1, d2] at h; exact (List.cons.inj h).2⟩
  ·refine zd he ?_
   refine zg (Ev.now _) ?_
   exact (decide_eq_false (fun h => by rw [d1, d2] at h; exact he (List.cons.inj h).1)).symm
theorem zhq (x y : List Int) (hb : x.length < 4611686018427387904) : Ev (fun k => zam.f k x y) (decide (x = y)) := by
 unfold zam.f
 by_cases h : x.length = y.length
 ·refine ze (by omega) ?_
  exact zg (ze5 x y h hb x.length 0 (by omega)) (by simp)
 ·refine zd (by omega) ?_
  refine zg (Ev.now _) ?_
  have : x ≠ y := fun e => h (by rw [e])
  simp [this]
def may (l : List Int) : Bool := decide (l.length ≤ 4096) && decide (Nm l)
theorem zag {l : List Int} : may l = true ↔ l.length ≤ 4096 ∧ Nm l := by simp [may]
theorem zaS {l : List Int} (h : Dg l) (hb : l.length < 4611686018427387904) : zT.f l = some (may l) := by
 unfold zT.f may
 by_cases h1 : l.length ≤ 4096
 ·rw [if_pos (by omega)]
  by_cases h2 : l.length = 0
  ·have : l = [] := List.eq_nil_of_length_eq_zero h2
   subst this; simp [zaV]
  ·rw [if_neg (by omega)]
   have e : wrap64 ((l.length : Int) - 1) = ((l.length - 1 : Nat) : Int) := by unfold wrap64; omega
   rw [e, if_pos (by omega), if_pos (by omega), rdn]
   have h3 : l ≠ [] := fun e => h2 (by rw [e]; rfl)
   have h4 := zdG h
   by_cases h5 : l.getD (l.length - 1) 0 = 0
   ·have : ¬ Nm l := fun k => by rcases h4.1 k with k | k <;> contradiction
    rw [h5]; simp [this]
   ·have : Nm l := h4.2 (.inr h5)
    simp only [h5, not_false_eq_true, decide_true]; simp [h1, this]
 ·rw [if_neg (by omega)]; simp [h1]
theorem zcu {a b : List Int} (ha : Dg a) (hb : Dg b) (la : a.length < 4611686018427387904) (lb : b.length < 4611686018427387904) : Ev (fun k => zJ.f k [a, b]) (may a && may b) := by
 unfold zJ.f
 refine zf ?_
 simp only [zJ.l0]
 refine zd (by simp) (zd (by omega) (zd (by simp) ?_))
 have e0 : rdT [.is .u32] [a, b] 0 = a := rfl
 have e1 : rdT [.is .u32] [a, b] 1 = b := rfl
 rw [e0]
 refine zh (zaS ha la) ?_
 cases may a with
 | false => exact zd (by simp) (Ev.now _)
 | true =>
  refine ze (by simp) ?_
  have w1 : wrap64 (0 + 1) = 1 := by unfold wrap64; omega
  have w2 : wrap64 (1 + 1) = 2 := by unfold wrap64; omega
  rw [w1]
  refine zf ?_
  simp only [zJ.l0]
  refine zd (by simp) (zd (by omega) (zd (by simp) ?_))
  rw [e1]
  refine zh (zaS hb lb) ?_
  cases may b with
  | false => exact zd (by simp) (Ev.now _)
  | true =>
   refine ze (by simp) ?_
   rw [w2]
   refine zf ?_
   simp only [zJ.l0]
   exact ze (by simp) (Ev.now _)
def zau (n : Nat) : List Int × Int := if (D n).length > 4096 then ([], 3) else (D n, 0)
theorem zeI (n : Nat) : z6.f (D n) = some (zau n) := by
 unfold z6.f zau
 by_cases h : (D n).length > 4096
 ·rw [if_pos (by omega), if_pos h]
 ·rw [if_neg (by omega), if_neg h]
theorem zfD {x y c : Int} (hx : 0 ≤ x ∧ x < 4294967296) (hy : 0 ≤ y ∧ y < 4294967296) (hc : 0 ≤ c ∧ c < 4294967296) : zbh.f x y c = some ((x + y + c) % 4294967296, (x + y + c) / 4294967296) := by
 unfold zbh.f
 rw [u64 hx.1 (by omega), u64 hy.1 (by omega), u64 hc.1 (by omega), u64 (n := x + y) (by omega) (by omega), u64 (by omega) (by omega)]
 have : (x + y + c) / 4294967296 % 4294967296 = (x + y + c) / 4294967296 := by omega
 rw [this]
def zaM : List Int → List Int → Int → List Int
 | [], _, c => [c]
 | x :: a, b, c => ((x + b.headD 0 + c) % 4294967296) :: zaM a b.tail ((x + b.headD 0 + c) / 4294967296)
theorem Dg.headD {b : List Int} (h : Dg b) : 0 ≤ b.headD 0 ∧ b.headD 0 < 4294967296 := by
 cases b with
 | nil => simp
 | cons y b => exact h.head
theorem Dg.tl {b : List Int} (h : Dg b) : Dg b.tail := by
 cases b with
 | nil => exact h
 | cons y b => exact h.tail
theorem zcq (b : List Int) : V b = (b.headD 0).toNat + 4294967296 * V b.tail := by
 cases b <;> simp
theorem zfF {a b : List Int} {c : Int} (ha : Dg a) (hb : Dg b) (hc : 0 ≤ c ∧ c ≤ 1) (hl : b.length ≤ a.length) : V (zaM a b c) = V a + V b + c.toNat ∧ Dg (zaM a b c) := by
 induction a generalizing b c with
 | nil =>
  have : b = [] := List.eq_nil_of_length_eq_zero (by simpa using hl)
  subst this
  exact ⟨by simp [zaM], Dg.cons hc.1 (by omega) Dg.nil⟩
 | cons x a ih =>
  have hx := ha.head
  have hy := hb.headD
  have := ih (b := b.tail) (c := (x + b.headD 0 + c) / 4294967296) ha.tail hb.tl (by omega) (by simp at hl ⊢; omega)
  refine ⟨?_, Dg.cons (by omega) (by omega) this.2⟩
  rw [zaM, zq, this.1, zcq b, zq]
  omega
theorem zc8 (b : List Int) (n : Nat) : (b.drop n).headD 0 = b.getD n 0 := by
 rw [List.headD_eq_head?_getD, List.head?_drop, List.getD_eq_getElem?_getD]
theorem zdS (A Bl : List Int) (hA : Dg A) (hB : Dg Bl) (hl : A.length < 1152921504606846976) : ∀ (a done r : List Int) (c : Int) (pa : List Int), A = pa ++ a → done.length = pa.length → r.length = a.length + 1 → 0 ≤ c ∧ c ≤ 1 → Dg done → (Bl.drop done.length).length ≤ a.length →
  Ev (fun k => zl.l0 k A Bl (done ++ r) c A.length done.length) (zau (V (done ++ zaM a (Bl.drop done.length) c)))
 | [], done, r, c, pa, he, hd, hr, hc, hg, hbl => by
  obtain ⟨y, rfl⟩ : ∃ y, r = [y] := by
   match r, hr with
   | [y], _ => exact ⟨y, rfl⟩
  have hlen : A.length = done.length := by rw [he, hd]; simp
  refine zf ?_
  simp only [zl.l0]
  refine ze (by omega) (zd (by omega) (zd (by simp; omega) ?_))
  have hs : (done ++ [y]).set (A.length : Int).toNat c = done ++ [c] := by
   rw [zbx (by omega)]; simp
  rw [hs]
  have hg2 : Dg (done ++ [c]) := hg.app (Dg.cons hc.1 (by omega) Dg.nil)
  refine Ev.bind (zbY hg2 (by simp; omega)) ?_
  refine zh (zeI _) ?_
  exact Ev.now _
 | x :: a, done, r, c, pa, he, hd, hr, hc, hg, hbl => by
  obtain ⟨y, r, rfl⟩ : ∃ y r', r = y :: r' := by
   match r, hr with
   | y :: r', _ => exact ⟨y, r', rfl⟩
  have hlen : A.length = done.length + 1 + a.length := by rw [he, hd]; simp; omega
  refine zf ?_
  simp only [zl.l0, zal (n := done.length) (by omega)]
  refine zd (by omega) ?_
  have hx : rd A (done.length : Int) = x := by rw [he]; exact zak (by omega)
  have hxr : 0 ≤ x ∧ x < 4294967296 := by rw [he] at hA; exact hA.right.head
  have hyr := (hB.drop done.length).headD
  have key : ∀ z, z = (Bl.drop done.length).headD 0 → Ev (fun k => (zbh.f x z c).bind fun bt => if (done.length : Int) < ((done ++ y :: r).length : Int) then zl.l0 k A Bl ((done ++ y :: r).set (done.length : Int).toNat bt.1) bt.2 A.length ((done.length + 1 : Nat) : Int) else none) (zau (V (done ++ zaM (x :: a) (Bl.drop done.length) c))) := by
   rintro z rfl
   refine zh (zfD hxr hyr ⟨hc.1, by omega⟩) ?_
   refine zd (by simp; omega) ?_
   rw [zbx rfl]
   have := zdS A Bl hA hB hl a (done ++ [(x + (Bl.drop done.length).headD 0 + c) % 4294967296]) r ((x + (Bl.drop done.length).headD 0 + c) / 4294967296) (pa ++ [x]) (by rw [he]; simp) (by simp [hd]) (by simpa using hr) (by omega) (hg.app (Dg.cons (by omega) (by omega) Dg.nil)) (by simp at hbl ⊢; omega)
   rw [List.length_append, List.length_singleton] at this
   refine zg this ?_
   rw [zaM, List.tail_drop]; simp
  have jn : ∀ z, z = (Bl.drop done.length).headD 0 → Ev (fun n => zl.j3 n A Bl (done ++ y :: r) c (done.length : Int) z A.length (done.length : Int)) (zau (V (done ++ zaM (x :: a) (Bl.drop done.length) c))) := by
   intro z hz
   refine zf ?_
   simp only [zl.j3, zal (n := done.length) (by omega)]
   refine zd (by omega) (zd (by omega) ?_)
   rw [hx]
   have := key z hz
   simpa only [show (0 : Int) ≤ (done.length : Int) by omega, if_true] using this
  by_cases hb : (done.length : Int) < (Bl.length : Int)
  ·refine zd hb (zd (by omega) (zd (by omega) ?_))
   exact jn _ (by rw [zc8, rdn])
  ·refine ze hb ?_
   exact jn 0 (by rw [List.drop_eq_nil_of_le (by omega)]; rfl)
theorem zdR {a b : List Int} (ha : Dg a) (hb : Dg b) (hl : b.length ≤ a.length) (hn : a.length ≤ 4096) : Ev (fun k => zl.j1 k a b) (zau (V a + V b)) := by
 refine zf ?_
 simp only [zl.j1, zal (n := a.length) (by omega)]
 refine zd (by omega) (zd (by omega) ?_)
 have := zdS a b ha hb (by omega) a [] (List.replicate (a.length + 1) 0) 0 [] rfl rfl (by simp) (by omega) Dg.nil (by simpa using hl)
 refine zg this ?_
 have h2 := zfF ha hb (c := 0) (by omega) hl
 simp [h2.1]
theorem zgW {a b : List Int} (ha : Nm a) (hb : Nm b) (la : a.length ≤ 4096) (lb : b.length ≤ 4096) : Ev (fun k => zl.f k a b) (zau (V a + V b)) := by
 unfold zl.f
 refine Ev.bind (zcu ha.dg hb.dg (by omega) (by omega)) ?_
 have h1 : may a = true := zag.2 ⟨la, ha⟩
 have h2 : may b = true := zag.2 ⟨lb, hb⟩
 refine ze (by simp [h1, h2]) ?_
 by_cases h : a.length < b.length
 ·refine zd (by omega) ?_
  rw [Nat.add_comm]; exact zdR hb.dg ha.dg (by omega) lb
 ·exact ze (by omega) (zdR ha.dg hb.dg (by omega) la)
def zL (m n : Nat) : Int := if m < n then -1 else if n < m then 1 else 0
theorem zcV {l : List Int} {n : Nat} (h : n < l.length) : V (l.take (n + 1)) = V (l.take n) + 4294967296 ^ n * (l.getD n 0).toNat := by
 rw [List.take_succ_eq_append_getElem h, zaK]
 simp [Nat.min_eq_left (Nat.le_of_lt h), h]
theorem zfj {p q P d e : Nat} (hp : p < P) (h : d < e) : p + P * d < q + P * e := by
 have : P * (d + 1) ≤ P * e := Nat.mul_le_mul_left _ h
 rw [Nat.mul_add] at this
 omega
theorem zdM {l : List Int} (h : Dg l) {n : Nat} (hn : n ≤ l.length) : V (l.take n) < 4294967296 ^ n := by
 have := zaL (h.take n); rwa [List.length_take, Nat.min_eq_left hn] at this
theorem zf3 {x y : List Int} (hx : Dg x) (hy : Dg y) {n : Nat} (h1 : n < x.length) (h2 : n < y.length) :
  zL (V (x.take (n + 1))) (V (y.take (n + 1))) = if x.getD n 0 = y.getD n 0 then zL (V (x.take n)) (V (y.take n)) else if x.getD n 0 < y.getD n 0 then -1 else 1 := by
 rw [zcV h1, zcV h2]
 have a := hx.getD n
 have b := hy.getD n
 have p := zdM hx (Nat.le_of_lt h1)
 have q := zdM hy (Nat.le_of_lt h2)
 by_cases e : x.getD n 0 = y.getD n 0
 ·rw [if_pos e, e]; unfold zL; simp
 ·rw [if_neg e]
  by_cases c : x.getD n 0 < y.getD n 0
  ·rw [if_pos c]
   have := zfj (q := V (y.take n)) p (show (x.getD n 0).toNat < (y.getD n 0).toNat by omega)
   unfold zL; rw [if_pos this]
  ·rw [if_neg c]
   have := zfj (q := V (x.take n)) q (show (y.getD n 0).toNat < (x.getD n 0).toNat by omega)
   unfold zL; rw [if_neg (by omega), if_pos this]
theorem zfo {n : Nat} (h : n < 4611686018427387904) : wrap64 ((n : Int) - 1) = (n : Int) - 1 := by unfold wrap64; omega
theorem zeg {x y : List Int} (hx : Dg x) (hy : Dg y) (hb : x.length < 4611686018427387904) : ∀ (n : Nat), n ≤ x.length → n ≤ y.length → Ev (fun k => z7.l0 k x y ((n : Int) - 1)) (zL (V (x.take n)) (V (y.take n)))
 | 0, _, _ => by
  refine zf ?_
  simp only [z7.l0]
  (repeat (first | with_reducible refine ep ?_ | with_reducible refine en ?_)); exact Ev.now _
 | n + 1, h1, h2 => by
  refine zf ?_
  simp only [z7.l0]
  have e : ((n + 1 : Nat) : Int) - 1 = (n : Int) := by omega
  rw [e, zfo (n := n) (by omega)]
  (repeat (first | with_reducible refine ep ?_ | with_reducible refine en ?_))
  rw [zf3 hx hy (by omega) (by omega), rdn, rdn]
  by_cases c : x.getD n 0 = y.getD n 0
  ·(repeat (first | with_reducible refine ep ?_ | with_reducible refine en ?_))
   rw [if_pos c]
   exact zeg hx hy hb n (by omega) (by omega)
  ·(repeat (first | with_reducible refine ep ?_ | with_reducible refine en ?_))
   rw [if_neg c]
   by_cases c2 : x.getD n 0 < y.getD n 0
   ·(repeat (first | with_reducible refine ep ?_ | with_reducible refine en ?_))
    rw [if_pos c2]; exact Ev.now _
   ·(repeat (first | with_reducible refine ep ?_ | with_reducible refine en ?_))
    rw [if_neg c2]; exact Ev.now _
theorem zeJ {x y : List Int} (hx : Nm x) (hy : Nm y) (hb : x.length < 4611686018427387904) : Ev (fun k => z7.f k x y) (zL (V x) (V y)) := by
 unfold z7.f
 by_cases c : x.length < y.length
 ·(repeat (first | with_reducible refine ep ?_ | with_reducible refine en ?_))
  unfold zL; rw [if_pos (hx.lt_of_len hy c)]; exact Ev.now _
 ·(repeat (first | with_reducible refine ep ?_ | with_reducible refine en ?_))
  by_cases c2 : y.length < x.length
  ·(repeat (first | with_reducible refine ep ?_ | with_reducible refine en ?_))
   have := hy.lt_of_len hx c2
   unfold zL; rw [if_neg (by omega), if_pos this]; exact Ev.now _
  ·(repeat (first | with_reducible refine ep ?_ | with_reducible refine en ?_))
   have e : x.length = y.length := by omega
   rw [zfo (by omega)]
   have := zeg hx.dg hy.dg hb x.length (by omega) (by omega)
   rwa [List.take_length, e, List.take_length, ← e] at this
theorem zcL {a b : List Int} (ha : Nm a) (hb : Nm b) (la : a.length ≤ 4096) (lb : b.length ≤ 4096) : Ev (fun k => za9.f k a b) (zL (V a) (V b), 0) := by
 unfold za9.f
 refine Ev.bind (zcu ha.dg hb.dg (by omega) (by omega)) ?_
 have h1 : may a = true := zag.2 ⟨la, ha⟩
 have h2 : may b = true := zag.2 ⟨lb, hb⟩
 refine ze (by simp [h1, h2]) (Ev.bind (zeJ ha hb (by omega)) ?_)
 exact Ev.now _
theorem zcf (n : Nat) : n >>> 31 = n / 2147483648 := by rw [Nat.shiftRight_eq_div_pow]
theorem zc3 {n : Nat} (h : n < 4294967296) : n / 2147483648 = 0 ∨ n / 2147483648 = 1 := by omega
theorem zfW {x y d : Nat} (hx : x < 4294967296) (hy : y < 4294967296) (hd : d < 4294967296) :
  ((((4294967295 ^^^ x) &&& y) ||| ((4294967295 ^^^ (x ^^^ y)) &&& d)) / 2147483648 : Nat) =
   if x / 2147483648 = 0 then (if y / 2147483648 = 0 then d / 2147483648 else 1) else (if y / 2147483648 = 0 then 0 else d / 2147483648) := by
 rw [← zcf, ← zcf, ← zcf, ← zcf, Nat.shiftRight_or_distrib, Nat.shiftRight_and_distrib, Nat.shiftRight_and_distrib, Nat.shiftRight_xor_distrib, Nat.shiftRight_xor_distrib, Nat.shiftRight_xor_distrib]
 simp only [zcf]
 have e : 4294967295 / 2147483648 = 1 := by decide
 rw [e]
 rcases zc3 hx with h1 | h1 <;> rcases zc3 hy with h2 | h2 <;> rcases zc3 hd with h3 | h3 <;> rw [h1, h2, h3] <;> decide
theorem zhF {x y c : Int} (hx : 0 ≤ x ∧ x < 4294967296) (hy : 0 ≤ y ∧ y < 4294967296) (hc : 0 ≤ c ∧ c ≤ 1) : zbi.f x y c = some ((x - y - c) % 4294967296, if x < y + c then 1 else 0) := by
 unfold zbi.f
 have hd : ((x - y) % 4294967296 - c) % 4294967296 = (x - y - c) % 4294967296 := by omega
 rw [hd]
 obtain ⟨X, rfl⟩ := Int.eq_ofNat_of_zero_le hx.1
 obtain ⟨Y, rfl⟩ := Int.eq_ofNat_of_zero_le hy.1
 obtain ⟨Z, hZ⟩ := Int.eq_ofNat_of_zero_le (show 0 ≤ ((X : Int) - Y - c) % 4294967296 by omega)
 have hZl : Z < 4294967296 := by omega
 have h1 : 4294967295 ^^^ X < 4294967296 := Nat.xor_lt_two_pow (n := 32) (by omega) (by omega)
 have h2 : X ^^^ Y < 4294967296 := Nat.xor_lt_two_pow (n := 32) (by omega) (by omega)
 have h3 : 4294967295 ^^^ (X ^^^ Y) < 4294967296 := Nat.xor_lt_two_pow (n := 32) (by omega) (by omega)
 have h4 : (4294967295 ^^^ X) &&& Y < 4294967296 := Nat.and_lt_two_pow (n := 32) _ (by omega)
 have h5 : (4294967295 ^^^ (X ^^^ Y)) &&& Z < 4294967296 := Nat.and_lt_two_pow (n := 32) _ (by omega)
 have e : (4294967295 : Int) = ((4294967295 : Nat) : Int) := rfl
 rw [hZ, e, u32_xor_nat _ _ (by omega) (by omega), u32_and_nat _ _ h1 (by omega), u32_xor_nat _ _ (by omega) (by omega), u32_xor_nat _ _ (by omega) h2, u32_and_nat _ _ h3 hZl, u32_or_nat _ _ h4 h5]
 have b := zfW (x := X) (y := Y) (d := Z) (by omega) (by omega) hZl
 have : (((((4294967295 ^^^ X) &&& Y ||| (4294967295 ^^^ (X ^^^ Y)) &&& Z : Nat) : Int)) / 2147483648) = (((((4294967295 ^^^ X) &&& Y ||| (4294967295 ^^^ (X ^^^ Y)) &&& Z) / 2147483648 : Nat)) : Int) := by omega
 rw [this, b]
 congr 2
 by_cases c1 : X / 2147483648 = 0 <;> by_cases c2 : Y / 2147483648 = 0 <;> simp only [c1, c2, if_true, if_false] <;> by_cases c3 : (X : Int) < Y + c <;> simp only [c3, if_true, if_false] <;> omega
def zaT : List Int → List Int → Int → List Int
 | [], _, _ => []
 | x :: a, b, c => ((x - b.headD 0 - c) % 4294967296) :: zaT a b.tail (if x < b.headD 0 + c then 1 else 0)
theorem zhG {a b : List Int} {c : Int} (ha : Dg a) (hb : Dg b) (hc : 0 ≤ c ∧ c ≤ 1) (hl : b.length ≤ a.length) (h : V b + c.toNat ≤ V a) : V (zaT a b c) = V a - V b - c.toNat ∧ Dg (zaT a b c) := by
 induction a generalizing b c with
 | nil =>
  have : b = [] := List.eq_nil_of_length_eq_zero (by simpa using hl)
  subst this
  exact ⟨by simp [zaT], Dg.nil⟩
 | cons x a ih =>
  have hx := ha.head
  have hy := hb.headD
  rw [zcq b, zq] at h
  have := ih (b := b.tail) (c := if x < b.headD 0 + c then 1 else 0) ha.tail hb.tl (by split <;> omega) (by simp at hl ⊢; omega) (by split <;> omega)
  refine ⟨?_, Dg.cons (by omega) (by omega) this.2⟩
  rw [zaT, zq, this.1, zcq b, zq]
  split <;> omega
theorem zfc (A Bl : List Int) (hA : Dg A) (hB : Dg Bl) (hl : A.length < 1152921504606846976) : ∀ (a done r : List Int) (c : Int) (pa : List Int), A = pa ++ a → done.length = pa.length → r.length = a.length → 0 ≤ c ∧ c ≤ 1 → Dg done →
  Ev (fun k => zG.l0 k A Bl (done ++ r) c A.length done.length) (D (V (done ++ zaT a (Bl.drop done.length) c)))
 | [], done, r, c, pa, he, hd, hr, hc, hg => by
  have : r = [] := List.eq_nil_of_length_eq_zero hr
  subst this
  have hlen : A.length = done.length := by rw [he, hd]; simp
  refine zf ?_
  simp only [zG.l0]
  (repeat (first | with_reducible refine ep ?_ | with_reducible refine en ?_))
  refine Ev.bind (zbY (hg.app Dg.nil) (by simp; omega)) ?_
  exact Ev.now _
 | x :: a, done, r, c, pa, he, hd, hr, hc, hg => by
  obtain ⟨y, r, rfl⟩ : ∃ y r', r = y :: r' := by
   match r, hr with
   | y :: r', _ => exact ⟨y, r', rfl⟩
  have hlen : A.length = done.length + 1 + a.length := by rw [he, hd]; simp; omega
  refine zf ?_
  simp only [zG.l0, zal (n := done.length) (by omega)]
  (repeat (first | with_reducible refine ep ?_ | with_reducible refine en ?_))
  have hx : rd A (done.length : Int) = x := by rw [he]; exact zak (by omega)
  have hxr : 0 ≤ x ∧ x < 4294967296 := by rw [he] at hA; exact hA.right.head
  have hyr := (hB.drop done.length).headD
  have key : ∀ z, z = (Bl.drop done.length).headD 0 → Ev (fun k => (zbi.f x z c).bind fun bt => if (done.length : Int) < ((done ++ y :: r).length : Int) then zG.l0 k A Bl ((done ++ y :: r).set (done.length : Int).toNat bt.1) bt.2 A.length ((done.length + 1 : Nat) : Int) else none) (D (V (done ++ zaT (x :: a) (Bl.drop done.length) c))) := by
   rintro z rfl
   refine zh (zhF hxr hyr hc) ?_
   (repeat (first | with_reducible refine ep ?_ | with_reducible refine en ?_))
   rw [zbx rfl]
   have := zfc A Bl hA hB hl a (done ++ [(x - (Bl.drop done.length).headD 0 - c) % 4294967296]) r (if x < (Bl.drop done.length).headD 0 + c then 1 else 0) (pa ++ [x]) (by rw [he]; simp) (by simp [hd]) (by simpa using hr) (by split <;> omega) (hg.app (Dg.cons (by omega) (by omega) Dg.nil))
   rw [List.length_append, List.length_singleton] at this
   refine zg this ?_
   rw [zaT, List.tail_drop]; simp
  have jn : ∀ z, z = (Bl.drop done.length).headD 0 → Ev (fun n => zG.j1 n A Bl (done ++ y :: r) c (done.length : Int) z A.length (done.length : Int)) (D (V (done ++ zaT (x :: a) (Bl.drop done.length) c))) := by
   intro z hz
   refine zf ?_
   simp only [zG.j1, zal (n := done.length) (by omega)]
   (repeat (first | with_reducible refine ep ?_ | with_reducible refine en ?_))
   rw [hx]
   have h0 : (0 : Int) ≤ (done.length : Int) := by omega
   have := key z hz
   simp only [h0, if_true]
   exact this
  by_cases hb : (done.length : Int) < (Bl.length : Int)
  ·(repeat (first | with_reducible refine ep ?_ | with_reducible refine en ?_))
   exact jn _ (by rw [zc8, rdn])
  ·(repeat (first | with_reducible refine ep ?_ | with_reducible refine en ?_))
   exact jn 0 (by rw [List.drop_eq_nil_of_le (by omega)]; rfl)
theorem zg0 {a b : List Int} (ha : Nm a) (hb : Nm b) (la : a.length ≤ 1000000) (h : V b ≤ V a) : Ev (fun k => zG.f k a b) (D (V a - V b)) := by
 unfold zG.f
 (repeat (first | with_reducible refine ep ?_ | with_reducible refine en ?_))
 have hl : b.length ≤ a.length := by rw [← ha.len, ← hb.len]; exact zdC h
 have := zfc a b ha.dg hb.dg (by omega) a [] (List.replicate a.length 0) 0 [] rfl rfl (by simp) (by omega) Dg.nil
 refine zg this ?_
 have h2 := zhG ha.dg hb.dg (c := 0) (by omega) hl (by simpa using h)
 simp [h2.1]
def zb1 (m n : Nat) : List Int × Int := if m < n then ([], 10) else (D (m - n), 0)
theorem zeH {a b : List Int} (ha : Nm a) (hb : Nm b) (la : a.length ≤ 4096) (lb : b.length ≤ 4096) : Ev (fun k => zaI.f k a b) (zb1 (V a) (V b)) := by
 unfold zaI.f zb1
 refine Ev.bind (zcu ha.dg hb.dg (by omega) (by omega)) ?_
 have h1 : may a = true := zag.2 ⟨la, ha⟩
 have h2 : may b = true := zag.2 ⟨lb, hb⟩
 refine ze (by simp [h1, h2]) (Ev.bind (zeJ ha hb (by omega)) ?_)
 by_cases c : V a < V b
 ·rw [if_pos c]
  refine zd ?_ (Ev.now _)
  unfold zL; rw [if_pos c]; decide
 ·rw [if_neg c]
  refine ze ?_ (Ev.bind (zg0 ha hb (by omega) (by omega)) (Ev.now _))
  unfold zL; rw [if_neg c]; split <;> decide
theorem zcJ {x y : Int} (hx : 0 ≤ x ∧ x < 4294967296) (hy : 0 ≤ y ∧ y < 4294967296) : 0 ≤ x * y ∧ x * y ≤ 18446744065119617025 := by
 constructor
 ·exact Int.mul_nonneg hx.1 hy.1
 ·have h1 : x * y ≤ 4294967295 * y := Int.mul_le_mul_of_nonneg_right (by omega) hy.1
  have h2 : 4294967295 * y ≤ 4294967295 * 4294967295 := Int.mul_le_mul_of_nonneg_left (by omega) (by omega)
  omega
def zD : Int → List Int → List Int → Int → List Int
 | _, [], o, c => c :: o.tail
 | x, y :: b, o, c => ((x * y + o.headD 0 + c) % 4294967296) :: zD x b o.tail ((x * y + o.headD 0 + c) / 4294967296)
theorem zdu {x y : Int} (hx : 0 ≤ x) (hy : 0 ≤ y) : (x * y).toNat = x.toNat * y.toNat := Int.toNat_mul hx hy
theorem zdr {x : Int} (hx : 0 ≤ x ∧ x < 4294967296) : ∀ (b o : List Int) (c : Int) (m : Nat), Dg b → Dg o → 0 ≤ c ∧ c < 4294967296 → o.drop b.length = List.replicate (m + 1) 0 →
  V (zD x b o c) = V o + x.toNat * V b + c.toNat ∧ Dg (zD x b o c) ∧ (zD x b o c).tail.drop b.length = List.replicate m 0 ∧ (zD x b o c).length = o.length
 | [], o, c, m, hb, ho, hc, hz => by
  have hz' : o = 0 :: List.replicate m 0 := by simpa [List.replicate_succ] using hz
  subst hz'
  refine ⟨?_, ?_, ?_, ?_⟩
  ·simp [zD, zcW]
  ·exact Dg.cons hc.1 hc.2 (Dg.zeros m)
  ·simp [zD]
  ·simp [zD]
 | y :: b, o, c, m, hb, ho, hc, hz => by
  obtain ⟨o0, o, rfl⟩ : ∃ o0 o', o = o0 :: o' := by
   cases o with
   | nil => simp at hz
   | cons o0 o' => exact ⟨o0, o', rfl⟩
  have hy := hb.head
  have h0 := ho.head
  have hp := zcJ hx hy
  have hz2 : o.drop b.length = List.replicate (m + 1) 0 := by simpa using hz
  have := zdr hx b o ((x * y + o0 + c) / 4294967296) m hb.tail ho.tail (by omega) hz2
  simp only [zD, List.headD_cons, List.tail_cons]
  refine ⟨?_, Dg.cons (by omega) (by omega) this.2.1, ?_, by simp [this.2.2.2]⟩
  ·have e1 : x.toNat * (y.toNat + 4294967296 * V b) = (x * y).toNat + 4294967296 * (x.toNat * V b) := by
    rw [Nat.mul_add, Nat.mul_left_comm, zdu hx.1 hy.1]
   rw [zq, this.1, zq, zq, e1]
   omega
  ·obtain ⟨r0, r, hr⟩ : ∃ r0 r', zD x b o ((x * y + o0 + c) / 4294967296) = r0 :: r' := by
    cases h : zD x b o ((x * y + o0 + c) / 4294967296) with
    | nil =>
     have hl := this.2.2.2
     rw [h] at hl
     have : o = [] := List.eq_nil_of_length_eq_zero (by simpa using hl.symm)
     subst this; simp at hz2
    | cons r0 r' => exact ⟨r0, r', rfl⟩
   have h3 := this.2.2.1
   rw [hr] at h3 ⊢
   simpa using h3
def zaH : List Int → List Int → List Int → List Int
 | [], _, o => o
 | x :: a, b, o => (zD x b o 0).headD 0 :: zaH a b (zD x b o 0).tail
theorem zeC : ∀ (a b o : List Int), Dg a → Dg b → Dg o → o.drop b.length = List.replicate a.length 0 → V (zaH a b o) = V o + V a * V b ∧ Dg (zaH a b o) ∧ (zaH a b o).length = o.length
 | [], b, o, ha, hb, ho, hz => by simp [zaH, ho]
 | x :: a, b, o, ha, hb, ho, hz => by
  have hr := zdr ha.head b o 0 a.length hb ho (by omega) (by simpa using hz)
  obtain ⟨r0, r, he⟩ : ∃ r0 r', zD x b o 0 = r0 :: r' := by
   cases h : zD x b o 0 with
   | nil =>
    have hl := hr.2.2.2
    rw [h] at hl
    have : o = [] := List.eq_nil_of_length_eq_zero (by simpa using hl.symm)
    subst this; simp at hz
   | cons r0 r' => exact ⟨r0, r', rfl⟩
  rw [he] at hr
  have := zeC a b r ha.tail hb hr.2.1.tail (by simpa using hr.2.2.1)
  simp only [zaH, he, List.headD_cons, List.tail_cons]
  refine ⟨?_, Dg.cons hr.2.1.head.1 hr.2.1.head.2 this.2.1, ?_⟩
  ·have h1 := hr.1
   rw [zq] at h1
   rw [zq, this.1, zq, Nat.add_mul, Nat.mul_add, Nat.mul_assoc]
   simp at h1
   omega
  ·have := hr.2.2.2
   simp at this ⊢; omega
theorem zcR {l : List Int} (h : Nm l) (h0 : l ≠ []) : 4294967296 ^ (l.length - 1) ≤ V l := by
 have h1 : V l ≠ 0 := fun e => h0 ((zb7 h).1 e)
 have := zfx h1
 rwa [h.len] at this
def conv : List Int → List Int → Nat → Nat
 | [], _, _ => 0
 | x :: _, b, 0 => x.toNat * (b.getD 0 0).toNat
 | x :: a, b, k + 1 => x.toNat * (b.getD (k + 1) 0).toNat + conv a b k
def zav (a b : List Int) : Nat → Nat
 | 0 => 0
 | n + 1 => zav a b n + 4294967296 ^ n * conv a b n
theorem zdN (l : List Int) (n : Nat) : V (l.take (n + 1)) = V (l.take n) + 4294967296 ^ n * (l.getD n 0).toNat := by
 by_cases h : n < l.length
 ·exact zcV h
 ·have e : l.getD n 0 = 0 := by rw [List.getD_eq_getElem?_getD, List.getElem?_eq_none (by omega)]; rfl
  rw [List.take_of_length_le (by omega), List.take_of_length_le (by omega), e]; simp
theorem zf6 (b : List Int) (n : Nat) : zav [] b n = 0 := by
 induction n with
 | zero => rfl
 | succ n ih => simp [zav, ih, conv]
theorem zf5 (x : Int) (a b : List Int) (n : Nat) : zav (x :: a) b (n + 1) = x.toNat * V (b.take (n + 1)) + 4294967296 * zav a b n := by
 induction n with
 | zero =>
  have := zdN b 0
  simp at this
  simp [zav, conv, this]
 | succ n ih =>
  have e := zdN b (n + 1)
  rw [zav, ih, conv, e, zav, Nat.pow_succ]
  grind
theorem zf4 (a b : List Int) (n : Nat) (h : a.length + b.length ≤ n) : zav a b n = V a * V b := by
 induction a generalizing n with
 | nil => simp [zf6]
 | cons x a ih =>
  cases n with
  | zero => simp at h
  | succ n =>
   rw [zf5, ih n (by simp at h; omega), List.take_of_length_le (by simp at h; omega), zq, Nat.add_mul, Nat.mul_assoc]
theorem zf8 {a b : List Int} (ha : Dg a) (hb : Dg b) (k : Nat) : conv a b k ≤ a.length * 18446744065119617025 := by
 induction a generalizing k with
 | nil => simp [conv]
 | cons x a ih =>
  have hx := ha.head
  have key : ∀ j, x.toNat * (b.getD j 0).toNat ≤ 18446744065119617025 := by
   intro j
   have hy := hb.getD j
   have hp := zcJ hx hy
   rw [← zdu hx.1 hy.1]; omega
  cases k with
  | zero => rw [conv]; have := key 0; simp only [List.length_cons]; omega
  | succ k => rw [conv]; have := key (k + 1); have := ih ha.tail k; simp only [List.length_cons]; omega
theorem zf7 {a b : List Int} {k : Nat} (h : b.length ≤ k) (hk : 0 < k) : conv a b k = conv (a.drop 1) b (k - 1) := by
 cases a with
 | nil => simp [conv]
 | cons x a =>
  obtain ⟨k, rfl⟩ : ∃ m, k = m + 1 := ⟨k - 1, by omega⟩
  have e : b.getD (k + 1) 0 = 0 := by rw [List.getD_eq_getElem?_getD, List.getElem?_eq_none (by omega)]; rfl
  rw [conv, e]; simp
theorem zeh (a b : List Int) (k : Nat) : ∀ n, n + b.length ≤ k + 1 → n ≤ k → conv a b k = conv (a.drop n) b (k - n)
 | 0, _, _ => by simp
 | n + 1, h, hk => by
  rw [zeh a b k n (by omega) (by omega), zf7 (by omega) (by omega), List.drop_drop]
  rw [Nat.sub_sub]
theorem zg8 {x y : Int} (h0 : 0 ≤ x ∧ x < 4294967296) (h1 : 0 ≤ y) : Go.bits .or .u64 x (IntKind.u64.wrap (y * 4294967296)) = x + (y % 4294967296) * 4294967296 := by
 rw [zay]
 obtain ⟨X, rfl⟩ := Int.eq_ofNat_of_zero_le h0.1
 obtain ⟨Y, rfl⟩ := Int.eq_ofNat_of_zero_le h1
 have e : (Y : Int) * 4294967296 % 18446744073709551616 = ((2 ^ 32 * (Y % 4294967296) : Nat) : Int) := by omega
 rw [e, u64_or_nat _ _ (by omega) (by omega), Nat.or_comm, ← Nat.two_pow_add_eq_or_of_lt (by omega)]
 omega
theorem zdq (A Bl : List Int) (hA : Dg A) (hB : Dg Bl) (hl : A.length < 1000000000) (hlb : Bl.length < 1000000000) (out : List Int) (k : Nat) (hk : k < A.length + Bl.length) (hout : out.length < 1000000000) (T : Nat) (hT : T < 79228162514264337593543950336000) (res : List Int)
  (H : Ev (fun q => zn.l0 q A Bl (out ++ [((T % 4294967296 : Nat) : Int)]) (((T / 4294967296) % 18446744073709551616 : Nat) : Int) (((T / 4294967296) / 18446744073709551616 : Nat) : Int) ((k + 1 : Nat) : Int)) res) :
  ∀ (d i : Nat) (low high : Int), i + d = k + 1 → 0 ≤ low ∧ low < 18446744073709551616 → 0 ≤ high → k < i + Bl.length → low.toNat + 18446744073709551616 * high.toNat + (if i ≤ k then conv (A.drop i) Bl (k - i) else 0) = T →
  Ev (fun q => zn.l1 q A Bl out low high k i) res
 | d, i, low, high, hd, hlow, hhigh, hi, he => by
  have fin : low.toNat + 18446744073709551616 * high.toNat = T → Ev (fun q => if out.length + ([low % 4294967296] : List Int).length < 35184372088832 then zn.l0 q A Bl (out ++ [low % 4294967296]) (Go.bits .or .u64 (low / 4294967296) (IntKind.u64.wrap (high * 4294967296))) (high / 4294967296) ((k + 1 : Nat) : Int) else none) res := by
   intro e
   (repeat (first | with_reducible refine ep ?_ | with_reducible refine en ?_))
   rw [zg8 (by omega) hhigh]
   have e1 : low % 4294967296 = ((T % 4294967296 : Nat) : Int) := by omega
   have e2 : low / 4294967296 + high % 4294967296 * 4294967296 = (((T / 4294967296) % 18446744073709551616 : Nat) : Int) := by omega
   have e3 : high / 4294967296 = (((T / 4294967296) / 18446744073709551616 : Nat) : Int) := by omega
   rw [e1, e2, e3]; exact H
  refine zf ?_
  have e : wrap64 ((k : Int) - (i : Int)) = (k : Int) - (i : Int) := by unfold wrap64; omega
  simp only [zn.l1, e, zal (n := i) (by omega), zal (n := k) (by omega)]
  clear e
  by_cases c1 : i ≤ k
  ·rw [if_pos c1] at he
   by_cases c2 : i < A.length
   ·have hx : A.drop i = A.getD i 0 :: A.drop (i + 1) := by rw [List.drop_eq_getElem_cons c2]; simp [c2]
    have ha := hA.getD i
    have hb := hB.getD (k - i)
    have hp := zcJ ha hb
    have hpN := zdu ha.1 hb.1
    have e : (k : Int) - (i : Int) = ((k - i : Nat) : Int) := by omega
    (repeat (first | with_reducible refine ep ?_ | with_reducible refine en ?_))
    rw [e]
    rw [rdn, rdn, u64 ha.1 (by omega), u64 hb.1 (by omega), u64 hp.1 (by omega)]
    generalize hP : A.getD i 0 * Bl.getD (k - i) 0 = P at *
    have hc : conv (A.drop i) Bl (k - i) = P.toNat + (if i + 1 ≤ k then conv (A.drop (i + 1)) Bl (k - (i + 1)) else 0) := by
     rw [hx, hpN]
     by_cases c3 : i + 1 ≤ k
     ·rw [if_pos c3, show k - i = (k - (i + 1)) + 1 by omega, conv]
     ·rw [if_neg c3, show k - i = 0 by omega, conv]; simp
    rw [hc] at he
    obtain ⟨d, rfl⟩ : ∃ m, d = m + 1 := ⟨d - 1, by omega⟩
    by_cases c4 : low + P < 18446744073709551616
    ·rw [u64 (n := low + P) (by omega) (by omega)]
     (repeat (first | with_reducible refine ep ?_ | with_reducible refine en ?_))
     exact zdq A Bl hA hB hl hlb out k hk hout T hT res H d (i + 1) (low + P) high (by omega) (by omega) hhigh (by omega) (by omega)
    ·have e5 : IntKind.u64.wrap (low + P) = low + P - 18446744073709551616 := by rw [zay]; omega
     rw [e5]
     (repeat (first | with_reducible refine ep ?_ | with_reducible refine en ?_))
     rw [u64 (n := high + 1) (by omega) (by omega)]
     exact zdq A Bl hA hB hl hlb out k hk hout T hT res H d (i + 1) (low + P - 18446744073709551616) (high + 1) (by omega) (by omega) (by omega) (by omega) (by omega)
   ·refine zd (by omega) (ze (by omega) (fin ?_))
    rw [List.drop_eq_nil_of_le (by omega), conv] at he
    omega
  ·rw [if_neg c1] at he
   exact ze (by omega) (fin (by omega))
theorem ze2 (A Bl : List Int) (hA : Dg A) (hB : Dg Bl) (hl : A.length < 100000000) (hlb : Bl.length < 100000000) (hb0 : 0 < Bl.length) : ∀ (d : Nat) (out : List Int) (T : Nat), out.length + d = A.length + Bl.length → Dg out → T < 79228162514264337593543950336 → V out + 4294967296 ^ out.length * T = zav A Bl out.length →
  Ev (fun q => zn.l0 q A Bl out ((T % 18446744073709551616 : Nat) : Int) ((T / 18446744073709551616 : Nat) : Int) out.length) (D (V A * V Bl))
 | 0, out, T, hd, hg, hT, hv => by
  refine zf ?_
  have e : wrap64 ((A.length : Int) + (Bl.length : Int)) = ((A.length + Bl.length : Nat) : Int) := by unfold wrap64; omega
  simp only [zn.l0, e]
  clear e
  refine ze (by omega) (Ev.bind (zdp hg (by omega)) (zg (Ev.now _) ?_))
  rw [zf4 A Bl _ (by omega)] at hv
  have h1 := zaL hA
  have h2 := zaL hB
  have h3 : V A * V Bl < 4294967296 ^ out.length := by
   rw [show out.length = A.length + Bl.length by omega, Nat.pow_add]
   exact Nat.mul_lt_mul'' h1 h2
  have h4 : T = 0 := by
   rcases Nat.eq_zero_or_pos T with h | h
   ·exact h
   ·have := Nat.mul_le_mul_left (4294967296 ^ out.length) h
    omega
  subst h4
  rw [← hv]; simp
 | d + 1, out, T, hd, hg, hT, hv => by
  refine zf ?_
  have e : wrap64 ((A.length : Int) + (Bl.length : Int)) = ((A.length + Bl.length : Nat) : Int) := by unfold wrap64; omega
  simp only [zn.l0, e]
  clear e
  have hcl := zf8 hA hB out.length
  have hcl2 : A.length * 18446744065119617025 ≤ 100000000 * 18446744065119617025 := Nat.mul_le_mul_right _ (by omega)
  have next : Ev (fun q => zn.l0 q A Bl (out ++ [(((T + conv A Bl out.length) % 4294967296 : Nat) : Int)]) ((((T + conv A Bl out.length) / 4294967296) % 18446744073709551616 : Nat) : Int) ((((T + conv A Bl out.length) / 4294967296) / 18446744073709551616 : Nat) : Int) ((out.length + 1 : Nat) : Int)) (D (V A * V Bl)) := by
   have := ze2 A Bl hA hB hl hlb hb0 d (out ++ [(((T + conv A Bl out.length) % 4294967296 : Nat) : Int)]) ((T + conv A Bl out.length) / 4294967296) (by simp; omega) (hg.app (Dg.cons (by omega) (by omega) Dg.nil)) (by omega) (by
    rw [zaK, List.length_append, List.length_singleton, zav, ← hv, Nat.pow_succ, Nat.mul_assoc, Nat.add_assoc, ← Nat.mul_add, Nat.add_assoc, ← Nat.mul_add]
    congr 2
    simp only [zq, zU]
    omega)
   rwa [List.length_append, List.length_singleton] at this
  (repeat (first | with_reducible refine ep ?_ | with_reducible refine en ?_))
  have j2 : ∀ (i : Nat), i ≤ out.length → out.length < i + Bl.length → conv A Bl out.length = conv (A.drop i) Bl (out.length - i) → Ev (fun q => zn.j3 q A Bl out ((T % 18446744073709551616 : Nat) : Int) ((T / 18446744073709551616 : Nat) : Int) out.length i) (D (V A * V Bl)) := by
   intro i h1 h2 h3
   refine zf ?_
   simp only [zn.j3]
   exact zdq A Bl hA hB (by omega) (by omega) out out.length (by omega) (by omega) (T + conv A Bl out.length) (by omega) _ next (out.length + 1 - i) i _ _ (by omega) (by omega) (by omega) h2 (by rw [if_pos h1, ← h3]; omega)
  by_cases c1 : out.length ≥ Bl.length
  ·(repeat (first | with_reducible refine ep ?_ | with_reducible refine en ?_))
   have c2 := hb0
   ·have e : wrap64 (wrap64 ((out.length : Int) - (Bl.length : Int)) + 1) = ((out.length + 1 - Bl.length : Nat) : Int) := by unfold wrap64; omega
    rw [e]
    clear e
    exact j2 _ (by omega) (by omega) (zeh A Bl out.length _ (by omega) (by omega))
  ·(repeat (first | with_reducible refine ep ?_ | with_reducible refine en ?_)); exact j2 0 (by omega) (by omega) (by simp)
theorem zhn {a b : List Int} (ha : Dg a) (hb : Dg b) (la : a.length < 100000000) (lb : b.length < 100000000) : Ev (fun k => zn.f k a b) (D (V a * V b)) := by
 unfold zn.f
 by_cases c1 : a.length = 0
 ·(repeat (first | with_reducible refine ep ?_ | with_reducible refine en ?_))
  have : a = [] := List.eq_nil_of_length_eq_zero c1
  subst this
  refine zg (Ev.now _) ?_
  simp [zH]
 ·(repeat (first | with_reducible refine ep ?_ | with_reducible refine en ?_))
  by_cases c2 : b.length = 0
  ·(repeat (first | with_reducible refine ep ?_ | with_reducible refine en ?_))
   have : b = [] := List.eq_nil_of_length_eq_zero c2
   subst this
   refine zg (Ev.now _) ?_
   simp [zH]
  ·(repeat (first | with_reducible refine ep ?_ | with_reducible refine en ?_))
   have := ze2 a b ha hb la lb (by omega) (a.length + b.length) [] 0 (by simp) Dg.nil (by omega) (by simp [zav])
   simpa using this
def bl (n : Nat) : Nat := if n = 0 then 0 else n.log2 + 1
theorem zcw : bl 0 = 0 := rfl
theorem zd3 {n : Nat} (h : n ≠ 0) : 2 ^ (bl n - 1) ≤ n := by
 unfold bl; rw [if_neg h]; exact Nat.log2_self_le h
theorem zaC (n : Nat) : n < 2 ^ bl n := by
 unfold bl
 split
 ·subst n; simp
 ·exact Nat.lt_log2_self
theorem zd5 {n : Nat} (h : n ≠ 0) : 0 < bl n := by unfold bl; rw [if_neg h]; omega
theorem zaa {n k : Nat} (h : n < 2 ^ k) : bl n ≤ k := by
 by_cases e : n = 0
 ·subst e; simp [zcw]
 ·have h1 := zd3 e
  have h2 := zd5 e
  have : bl n - 1 < k := (Nat.pow_lt_pow_iff_right (a := 2) (by omega)).1 (Nat.lt_of_le_of_lt h1 h)
  omega
theorem zfS {n k : Nat} (h1 : 2 ^ k ≤ n) (h2 : n < 2 ^ (k + 1)) : bl n = k + 1 := by
 have := zaa h2
 have h3 : 2 ^ k < 2 ^ bl n := Nat.lt_of_le_of_lt h1 (zaC n)
 have := (Nat.pow_lt_pow_iff_right (a := 2) (by omega)).1 h3
 omega
theorem zbH {n k : Nat} (h : 2 ^ k ≤ n) : bl n = k + bl (n / 2 ^ k) := by
 have hp : 0 < 2 ^ k := Nat.pow_pos (by omega)
 have h0 : n / 2 ^ k ≠ 0 := by
  have := (Nat.le_div_iff_mul_le hp (x := 1) (y := n)).2 (by omega)
  omega
 have h1 := zd3 h0
 have h2 := zaC (n / 2 ^ k)
 have h3 := zd5 h0
 have e : k + bl (n / 2 ^ k) = (k + (bl (n / 2 ^ k) - 1)) + 1 := by omega
 rw [e]
 apply zfS
 ·rw [Nat.pow_add]
  have := (Nat.le_div_iff_mul_le hp).1 h1
  rw [Nat.mul_comm]; exact this
 ·have := (Nat.div_lt_iff_lt_mul hp).1 h2
  rw [show k + (bl (n / 2 ^ k) - 1) + 1 = bl (n / 2 ^ k) + k by omega, Nat.pow_add]
  exact this
theorem zfR {n : Nat} (h : n ≠ 0) : bl n = bl (n / 2) + 1 := by
 by_cases h1 : n = 1
 ·subst h1; rfl
 ·have := zbH (n := n) (k := 1) (by omega)
  simp at this; omega
theorem zb8 {a b : Nat} (h : a ≤ b) : bl a ≤ bl b := zaa (Nat.lt_of_le_of_lt h (zaC b))
def zfh : ByteArray := ⟨#[0, 1, 2, 2, 3, 3, 3, 3, 4, 4, 4, 4, 4, 4, 4, 4, 5, 5, 5, 5, 5, 5, 5, 5, 5, 5, 5, 5, 5, 5, 5, 5, 6, 6, 6, 6, 6, 6, 6, 6, 6, 6, 6, 6, 6, 6, 6, 6, 6, 6, 6, 6, 6, 6, 6, 6, 6, 6, 6, 6, 6, 6, 6, 6, 7, 7, 7, 7, 7, 7, 7, 7, 7, 7, 7, 7, 7, 7, 7, 7, 7, 7, 7, 7, 7, 7, 7, 7, 7, 7, 7, 7, 7, 7, 7, 7, 7, 7, 7, 7, 7, 7, 7, 7, 7, 7, 7, 7, 7, 7, 7, 7, 7, 7, 7, 7, 7, 7, 7, 7, 7, 7, 7, 7, 7, 7, 7, 7, 8, 8, 8, 8, 8, 8, 8, 8, 8, 8, 8, 8, 8, 8, 8, 8, 8, 8, 8, 8, 8, 8, 8, 8, 8, 8, 8, 8, 8, 8, 8, 8, 8, 8, 8, 8, 8, 8, 8, 8, 8, 8, 8, 8, 8, 8, 8, 8, 8, 8, 8, 8, 8, 8, 8, 8, 8, 8, 8, 8, 8, 8, 8, 8, 8, 8, 8, 8, 8, 8, 8, 8, 8, 8, 8, 8, 8, 8, 8, 8, 8, 8, 8, 8, 8, 8, 8, 8, 8, 8, 8, 8, 8, 8, 8, 8, 8, 8, 8, 8, 8, 8, 8, 8, 8, 8, 8, 8, 8, 8, 8, 8, 8, 8, 8, 8, 8, 8, 8, 8, 8, 8, 8, 8, 8, 8, 8, 8]⟩
theorem zhJ : (List.range 256).all (fun i => bt zfh (i : Int) == (bl i : Int)) = true := by decide +kernel
theorem bt8 {t : ByteArray} {n : Nat} (h : n < 256) (ht : t = zfh) : bt t (n : Int) = (bl n : Int) := by
 subst ht
 have := List.all_eq_true.1 zhJ n (List.mem_range.2 h)
 exact eq_of_beq this
theorem zfQ {n : Nat} (h : n < 256) : bl n ≤ 8 := zaa h
theorem zgE : zdv.size = 256 := by decide +kernel
theorem zex {n : Nat} (h : n < 256) {m : Int} (hm : 0 ≤ m ∧ m ≤ 64) : Ev (fun k => zK.j1 k (n : Int) m) (m + (bl n : Nat)) := by
 refine zf ?_
 simp only [zK.j1]
 have e : (n : Int) % 256 = n := by omega
 have l := zfQ h
 rw [e, zgE]
 (repeat (first | with_reducible refine ep ?_ | with_reducible refine en ?_))
 rw [bt8 h (by rfl), z8 (n := ((bl n : Nat) : Int)) (by omega) (by omega), z8 (by omega) (by omega)]
 exact Ev.now _
theorem zew {n : Nat} (h : n < 65536) {m : Int} (hm : 0 ≤ m ∧ m ≤ 32) : Ev (fun k => zK.j0 k (n : Int) m) (m + (bl n : Nat)) := by
 refine zf ?_
 simp only [zK.j0]
 by_cases c : n ≥ 256
 ·(repeat (first | with_reducible refine ep ?_ | with_reducible refine en ?_))
  have e2 : bl n = 8 + bl (n / 256) := zbH (k := 8) c
  have := zex (n := n / 256) (by omega) (m := m + 8) (by omega)
  rw [z8 (by omega) (by omega), show (n : Int) / 256 = ((n / 256 : Nat) : Int) by omega]
  exact zg this (by rw [e2]; omega)
 ·(repeat (first | with_reducible refine ep ?_ | with_reducible refine en ?_))
  exact zex (by omega) (by omega)
theorem zgD {x : Int} (h : 0 ≤ x ∧ x < 4294967296) : Ev (fun k => zK.f k x) ((bl x.toNat : Nat) : Int) := by
 obtain ⟨n, rfl⟩ := Int.eq_ofNat_of_zero_le h.1
 unfold zK.f
 rw [Int.toNat_natCast]
 by_cases c : n ≥ 65536
 ·(repeat (first | with_reducible refine ep ?_ | with_reducible refine en ?_))
  have e1 : bl n = 16 + bl (n / 65536) := zbH (k := 16) c
  rw [show (n : Int) / 65536 = ((n / 65536 : Nat) : Int) by omega]
  exact zg (zew (by omega) (by omega)) (by rw [e1]; omega)
 ·(repeat (first | with_reducible refine ep ?_ | with_reducible refine en ?_))
  exact zg (zew (by omega) (by omega)) (by omega)
theorem zhs : ∀ (n : Nat) (m : Int), 0 ≤ m ∧ m + (bl n : Nat) < 4611686018427387904 → n < 4294967296 → Ev (fun k => zaw.l0 k m n) (m + (bl n : Nat)) := by
 intro n
 induction n using Nat.strongRecOn with
 | _ n ih =>
  intro m hm hn
  refine zf ?_
  simp only [zaw.l0]
  by_cases c : n = 0
  ·subst c
   (repeat (first | with_reducible refine ep ?_ | with_reducible refine en ?_))
   exact zg (Ev.now _) (by simp [zcw])
  ·(repeat (first | with_reducible refine ep ?_ | with_reducible refine en ?_))
   have e : (n : Int) / 2 = ((n / 2 : Nat) : Int) := by omega
   have hb := zfR c
   rw [e, z8 (by omega) (by omega)]
   refine zg (ih (n / 2) (by omega) (m + 1) (by omega) (by omega)) ?_
   omega
theorem zdZ {l : List Int} (h : Nm l) (h0 : l ≠ []) : bl (V l) = 32 * (l.length - 1) + bl (l.getD (l.length - 1) 0).toNat := by
 rcases List.eq_nil_or_concat l with rfl | ⟨a, d, rfl⟩
 ·exact absurd rfl h0
 rw [List.concat_eq_append] at h ⊢
 have hd := h.dg d (by simp)
 have hn := zdH h
 have e : (a ++ [d]).getD ((a ++ [d]).length - 1) 0 = d := by simp
 rw [e]
 have hl : (a ++ [d]).length - 1 = a.length := by simp
 rw [hl, zaK]
 simp only [zq, zU, Nat.mul_zero, Nat.add_zero]
 have hv := zaL h.dg.left
 have hp : (4294967296 : Nat) ^ a.length = 2 ^ (32 * a.length) := by rw [Nat.pow_mul]
 rw [hp] at hv ⊢
 have hpos : 0 < 2 ^ (32 * a.length) := Nat.pow_pos (by omega)
 have hd1 : 2 ^ (32 * a.length) * 1 ≤ 2 ^ (32 * a.length) * d.toNat := Nat.mul_le_mul_left _ (by omega)
 rw [zbH (n := V a + 2 ^ (32 * a.length) * d.toNat) (k := 32 * a.length) (by omega)]
 rw [Nat.add_mul_div_left _ _ hpos, Nat.div_eq_of_lt hv, Nat.zero_add]
theorem zeZ {l : List Int} (h : Nm l) (hb : l.length < 1000000000) : Ev (fun k => zaw.f k l) ((bl (V l) : Nat) : Int) := by
 unfold zaw.f
 by_cases c : l.length = 0
 ·have : l = [] := List.eq_nil_of_length_eq_zero c
  subst this
  (repeat (first | with_reducible refine ep ?_ | with_reducible refine en ?_)); exact Ev.now _
 ·(repeat (first | with_reducible refine ep ?_ | with_reducible refine en ?_))
  have e : wrap64 ((l.length : Int) - 1) = ((l.length - 1 : Nat) : Int) := by unfold wrap64; omega
  rw [e]
  clear e
  (repeat (first | with_reducible refine ep ?_ | with_reducible refine en ?_))
  have hd := h.dg.getD (l.length - 1)
  rw [rdn, z8 (by omega) (by omega)]
  generalize hx : l.getD (l.length - 1) 0 = x at hd
  obtain ⟨n, rfl⟩ := Int.eq_ofNat_of_zero_le hd.1
  have hbn : bl n ≤ 32 := zaa (by omega)
  refine zg (zhs n _ (by omega) (by omega)) ?_
  have hne : l ≠ [] := fun e => c (by rw [e]; rfl)
  have hm := zdG h.dg |>.1 h
  rw [zdZ h hne, hx]
  simp
theorem pw {s : Nat} (h : s ≤ 32) : 2 ^ s * 2 ^ (32 - s) = 4294967296 := by
 rw [← Nat.pow_add]; have : s + (32 - s) = 32 := by omega
 rw [this]
theorem zp (s : Nat) : 0 < 2 ^ s := Nat.pow_pos (by omega)
theorem zb0 {X P Q c : Nat} (hP : 0 < P) (hc : c < P) : (X * P + c) / (P * Q) = X / Q ∧ (X * P + c) % (P * Q) = P * (X % Q) + c := by
 have h1 : (X * P + c) / P = X := by rw [Nat.mul_comm, Nat.mul_add_div hP, Nat.div_eq_of_lt hc, Nat.add_zero]
 have h2 : (X * P + c) % P = c := by rw [Nat.mul_comm, Nat.mul_add_mod, Nat.mod_eq_of_lt hc]
 exact ⟨by rw [← Nat.div_div_eq_div_mul, h1], by rw [Nat.mod_mul, h1, h2, Nat.add_comm]⟩
theorem zdl (s : Nat) : ((2 : Int) ^ s) = ((2 ^ s : Nat) : Int) := by simp
theorem zhB (X s : Nat) (hs : s < 32) : shl .u32 (X : Int) (s : Int) = ((X * 2 ^ s % 4294967296 : Nat) : Int) := by
 unfold shl
 rw [Int.toNat_natCast, Nat.min_eq_left (by simp [IntKind.bits]; omega), zdl, ← Int.natCast_mul]
 simp [IntKind.wrap, IntKind.bits, IntKind.signed]
theorem ze7 (X s : Nat) (hs : s ≤ 32) (hX : X < 4294967296) : shl .u64 (X : Int) (s : Int) = ((X * 2 ^ s : Nat) : Int) := by
 unfold shl
 rw [Int.toNat_natCast, Nat.min_eq_left (by simp [IntKind.bits]; omega), zdl, ← Int.natCast_mul]
 have h1 : 2 ^ s ≤ 2 ^ 32 := Nat.pow_le_pow_right (by omega) hs
 have h2 : X * 2 ^ s ≤ 4294967295 * 2 ^ 32 := Nat.mul_le_mul (by omega) h1
 exact u64 (by omega) (by omega)
theorem zby {k : IntKind} (X s : Nat) (hs : s ≤ k.bits) : shr k (X : Int) (s : Int) = ((X / 2 ^ s : Nat) : Int) := by
 unfold shr
 rw [Int.toNat_natCast, Nat.min_eq_left hs, zdl, ← Int.natCast_ediv]
theorem zcp (X : Nat) (hX : X < 4294967296) : IntKind.u64.wrap (X : Int) = (X : Int) := u64 (by omega) (by omega)
theorem zdx {s : Nat} (hs : s ≤ 32) : wrap64 (32 - (s : Int)) = ((32 - s : Nat) : Int) := by unfold wrap64; omega
theorem zcb {X s : Nat} (hs : s ≤ 32) (hX : X < 4294967296) : X / 2 ^ s < 2 ^ (32 - s) := by
 rw [Nat.div_lt_iff_lt_mul (zp _), Nat.mul_comm, pw hs]; exact hX
theorem zhR (X s c : Nat) (hs : s < 32) (hX : X < 4294967296) (hc : c < 2 ^ s) : Go.bits .or .u32 (shl .u32 (X : Int) (s : Int)) (c : Int) = (((X * 2 ^ s + c) % 4294967296 : Nat) : Int) := by
 have h1 := (zb0 (X := X) (Q := 2 ^ (32 - s)) (zp s) hc).2
 have h0 := (zb0 (X := X) (Q := 2 ^ (32 - s)) (c := 0) (zp s) (zp s)).2
 have hle : 2 ^ s ≤ 2 ^ 31 := Nat.pow_le_pow_right (by omega) (by omega)
 rw [pw (by omega)] at h1 h0
 rw [zhB _ _ hs, u32_or_nat _ _ (by omega) (by omega), h1]
 rw [Nat.add_zero, Nat.add_zero] at h0
 rw [h0, ← Nat.two_pow_add_eq_or_of_lt hc]
theorem zhQ (X s c : Nat) (hs : s < 32) (hX : X < 4294967296) (hc : c < 2 ^ s) : (shr .u64 (IntKind.u64.wrap (X : Int)) (wrap64 (32 - (s : Int)))) % 4294967296 = (((X * 2 ^ s + c) / 4294967296 : Nat) : Int) := by
 have h1 := (zb0 (X := X) (Q := 2 ^ (32 - s)) (zp s) hc).1
 rw [pw (by omega)] at h1
 rw [zcp _ hX, zdx (by omega), zby _ _ (by simp [IntKind.bits]; omega), h1]
 have := zcb (s := 32 - s) (by omega) hX
 have h3 : X / 2 ^ (32 - s) ≤ X := Nat.div_le_self _ _
 omega
theorem zfm (X s c : Nat) (hs : s < 32) (hX : X < 4294967296) (hc : c < 2 ^ s) : (X * 2 ^ s + c) / 4294967296 < 2 ^ s := by
 have h1 := (zb0 (X := X) (Q := 2 ^ (32 - s)) (zp s) hc).1
 rw [pw (by omega)] at h1
 rw [h1]
 have := zcb (s := 32 - s) (by omega) hX
 have e : 32 - (32 - s) = s := by omega
 rwa [e] at this
def zbd (P : Nat) : List Int → Nat → List Int
 | [], c => [(c : Int)]
 | d :: l, c => (((d.toNat * P + c) % 4294967296 : Nat) : Int) :: zbd P l ((d.toNat * P + c) / 4294967296)
theorem zfl {s : Nat} (hs : s < 32) : ∀ (l : List Int) (c : Nat), Dg l → c < 2 ^ s → V (zbd (2 ^ s) l c) = V l * 2 ^ s + c ∧ Dg (zbd (2 ^ s) l c)
 | [], c, _, hc => by
  have hle : 2 ^ s ≤ 2 ^ 31 := Nat.pow_le_pow_right (by omega) (by omega)
  simp only [zbd, zq, zU]
  exact ⟨by omega, Dg.cons (by omega) (by omega) Dg.nil⟩
 | d :: l, c, hg, hc => by
  have hd := hg.head
  have hX : d.toNat < 4294967296 := by omega
  have ih := zfl hs l _ hg.tail (zfm d.toNat s c hs hX hc)
  simp only [zbd, zq, ih.1]
  refine ⟨?_, Dg.cons (by omega) (by omega) ih.2⟩
  generalize hm : d.toNat * 2 ^ s + c = m
  rw [Nat.add_mul, Nat.mul_assoc]
  generalize V l * 2 ^ s = z
  omega
theorem nn {i : Nat} : 0 ≤ (i : Int) := Int.natCast_nonneg i
theorem zfn (A : List Int) (hA : Dg A) (hl : A.length < 1000000000) {s : Nat} (hs : s < 32) : ∀ (a done pa : List Int) (c : Nat), A = pa ++ a → c < 2 ^ s → Dg done → done.length + a.length < 2000000000 →
  Ev (fun k => zar.l0 k done s c A A.length pa.length) (D (V (done ++ zbd (2 ^ s) a c)))
 | [], done, pa, c, he, hc, hg, hb => by
  have hlen : A.length = pa.length := by rw [he]; simp
  have hle : 2 ^ s ≤ 2 ^ 31 := Nat.pow_le_pow_right (by omega) (by omega)
  refine zf ?_
  simp only [zar.l0]
  (repeat (first | with_reducible refine ep ?_ | with_reducible refine en ?_))
  exact Ev.bind (zbY (hg.app (Dg.cons (by omega) (by omega) Dg.nil)) (by simp at hb ⊢; omega)) (Ev.now _)
 | d :: a, done, pa, c, he, hc, hg, hb => by
  have hlen : A.length = pa.length + 1 + a.length := by rw [he]; simp; omega
  have hd : 0 ≤ d ∧ d < 4294967296 := by rw [he] at hA; exact hA.right.head
  obtain ⟨X, rfl⟩ := Int.eq_ofNat_of_zero_le hd.1
  have hX : X < 4294967296 := by omega
  have h1 : rd A (pa.length : Int) = (X : Int) := by rw [he]; exact zak rfl
  refine zf ?_
  simp only [zar.l0, h1, zal (n := pa.length) (by omega), zhR X s c hs hX hc, zhQ X s c hs hX hc]
  have w32 : wrap64 (32 - (s : Int)) = 32 - (s : Int) := by unfold wrap64; omega
  (repeat (first | with_reducible refine ep ?_ | with_reducible refine en ?_))
  have := zfn A hA hl hs a (done ++ [(((X * 2 ^ s + c) % 4294967296 : Nat) : Int)]) (pa ++ [(X : Int)]) ((X * 2 ^ s + c) / 4294967296) (by rw [he]; simp) (zfm X s c hs hX hc) (hg.app (Dg.cons (by omega) (by omega) Dg.nil)) (by simp at hb ⊢; omega)
  rw [List.length_append, List.length_singleton] at this
  refine zg this ?_
  simp [zbd]
theorem t32 {n : Nat} (h : n < 4611686018427387904) : wrap64 (Int.tdiv (n : Int) 32) = ((n / 32 : Nat) : Int) := by
 rw [Int.tdiv_eq_ediv_of_nonneg (by omega)]; unfold wrap64; omega
theorem m32 (n : Nat) : Int.tmod (n : Int) 32 = ((n % 32 : Nat) : Int) := by
 rw [Int.tmod_eq_emod_of_nonneg (by omega)]; omega
theorem zcm (n : Nat) : 2 ^ n = 4294967296 ^ (n / 32) * 2 ^ (n % 32) := by
 have h : (4294967296 : Nat) = 2 ^ 32 := by decide
 rw [h, ← Nat.pow_mul, ← Nat.pow_add]; congr 1; omega
theorem zhP {a : List Int} (ha : Dg a) (n : Nat) : V (List.replicate (n / 32) 0 ++ zbd (2 ^ (n % 32)) a 0) = V a * 2 ^ n := by
 have h := (zfl (s := n % 32) (by omega) a 0 ha (zp _)).1
 rw [zaK, zcW, List.length_replicate, h, Nat.zero_add, Nat.add_zero, zcm n, Nat.mul_left_comm]
theorem zg1 {a : List Int} (ha : Dg a) (la : a.length < 1000000000) (n : Nat) (hn : n < 1000000000) : Ev (fun k => zar.f k a n) (D (V a * 2 ^ n)) := by
 unfold zar.f
 have e1 : wrap64 (wrap64 (((n / 32 : Nat) : Int) + (a.length : Int)) + 1) = ((n / 32 + a.length + 1 : Nat) : Int) := by unfold wrap64; omega
 simp only [t32 (n := n) (by omega), m32, e1]
 clear e1
 by_cases h0 : a = []
 ·subst h0
  (repeat (first | with_reducible refine ep ?_ | with_reducible refine en ?_))
  exact zg (Ev.now _) (by simp [zH])
 ·have : 0 < a.length := List.length_pos_iff.2 h0
  (repeat (first | with_reducible refine ep ?_ | with_reducible refine en ?_))
  have h := zfn a ha la (s := n % 32) (by omega) a (List.replicate (n / 32) 0) [] 0 rfl (zp _) (Dg.zeros _) (by simp; omega)
  rw [zhP ha] at h
  simp only [Int.toNat_natCast]
  simpa using h
theorem pw' {s : Nat} (h : s ≤ 32) : 2 ^ (32 - s) * 2 ^ s = 4294967296 := by rw [Nat.mul_comm]; exact pw h
theorem zb6 {l : List Int} (h : Dg l) (q : Nat) : V (l.drop q) = V l / 4294967296 ^ q := by
 by_cases hq : q ≤ l.length
 ·have e : V l = V (l.take q) + 4294967296 ^ q * V (l.drop q) := by
   conv => lhs; rw [← List.take_append_drop q l, zaK, List.length_take, Nat.min_eq_left hq]
  have hlt : V (l.take q) < 4294967296 ^ q := by
   have := zaL (h.take q); rwa [List.length_take, Nat.min_eq_left hq] at this
  rw [e, Nat.add_mul_div_left _ _ (Nat.pow_pos (by omega)), Nat.div_eq_of_lt hlt, Nat.zero_add]
 ·rw [List.drop_eq_nil_of_le (by omega), zU, Nat.div_eq_of_lt]
  exact Nat.lt_of_lt_of_le (zaL h) (Nat.pow_le_pow_right (by omega) (by omega))
theorem zdf {m : Nat} (h : m < 4294967296) : (m : Int) < 4294967296 := by omega
theorem zga (Y s : Nat) (hs : s < 32) (hY : Y < 4294967296) : (shl .u64 (IntKind.u64.wrap (Y : Int)) (wrap64 (32 - (s : Int)))) % 4294967296 = ((2 ^ (32 - s) * (Y % 2 ^ s) : Nat) : Int) := by
 rw [zcp _ hY, zdx (by omega), ze7 _ _ (by omega) hY]
 have h := (zb0 (X := Y) (P := 2 ^ (32 - s)) (Q := 2 ^ s) (c := 0) (zp _) (zp _)).2
 rw [pw' (by omega), Nat.add_zero, Nat.add_zero] at h
 rw [← h]; omega
theorem zcx (X Y s : Nat) (hs : s < 32) (hX : X < 4294967296) : X / 2 ^ s + 2 ^ (32 - s) * (Y % 2 ^ s) < 4294967296 := by
 have h1 := zcb (s := s) (by omega) hX
 have h2 : Y % 2 ^ s + 1 ≤ 2 ^ s := Nat.mod_lt _ (zp _)
 have h3 := Nat.mul_le_mul_left (2 ^ (32 - s)) h2
 rw [pw' (by omega), Nat.mul_add] at h3
 omega
theorem zf9 (X Y s : Nat) (hs : s < 32) (hX : X < 4294967296) (hY : Y < 4294967296) : Go.bits .or .u32 ((X / 2 ^ s : Nat) : Int) ((shl .u64 (IntKind.u64.wrap (Y : Int)) (wrap64 (32 - (s : Int)))) % 4294967296) = ((X / 2 ^ s + 2 ^ (32 - s) * (Y % 2 ^ s) : Nat) : Int) := by
 have hl := zcx X Y s hs hX
 rw [zga Y s hs hY, u32_or_nat _ _ (Nat.lt_of_le_of_lt (Nat.le_add_right _ _) hl) (Nat.lt_of_le_of_lt (Nat.le_add_left _ _) hl), Nat.or_comm, ← Nat.two_pow_add_eq_or_of_lt (zcb (by omega) hX), Nat.add_comm]
theorem zhj (X Y s : Nat) (hs : s < 32) (hX : X < 4294967296) (hY : Y < 4294967296) : (Go.bits .or .u64 (shr .u64 (IntKind.u64.wrap (X : Int)) (s : Int)) (shl .u64 (IntKind.u64.wrap (Y : Int)) (wrap64 (32 - (s : Int))))) % 4294967296 = ((X / 2 ^ s + 2 ^ (32 - s) * (Y % 2 ^ s) : Nat) : Int) := by
 have hl := zcb (s := s) (by omega) hX
 have hle : 2 ^ (32 - s) ≤ 2 ^ 32 := Nat.pow_le_pow_right (by omega) (by omega)
 have h2 : Y * 2 ^ (32 - s) ≤ 4294967295 * 2 ^ 32 := Nat.mul_le_mul (by omega) hle
 have hX2 : X / 2 ^ s ≤ X := Nat.div_le_self _ _
 rw [zcp _ hX, zcp _ hY, zdx (by omega), ze7 _ _ (by omega) hY, zby _ _ (by simp [IntKind.bits]; omega), u64_or_nat _ _ (by omega) (by omega), Nat.or_comm, Nat.mul_comm Y, ← Nat.two_pow_add_eq_or_of_lt hl, Nat.mul_comm _ Y]
 have h := (zb0 (X := Y) (P := 2 ^ (32 - s)) (Q := 2 ^ s) (c := X / 2 ^ s) (zp _) hl).2
 rw [pw' (by omega)] at h
 rw [Nat.add_comm (X / 2 ^ s), ← h]; omega
def zV (s : Nat) : List Int → List Int
 | [] => []
 | d :: l => ((d.toNat / 2 ^ s + 2 ^ (32 - s) * ((l.headD 0).toNat % 2 ^ s) : Nat) : Int) :: zV s l
theorem zfC {l : List Int} {s : Nat} (hs : s ≤ 32) : V l % 2 ^ s = (l.headD 0).toNat % 2 ^ s := by
 cases l with
 | nil => simp
 | cons d l =>
  have h := pw (s := s) hs
  simp only [zq, List.headD_cons]
  rw [← h, Nat.mul_assoc, Nat.add_mul_mod_self_left]
theorem zei {s : Nat} (hs : s < 32) : ∀ (l : List Int), Dg l → V (zV s l) = V l / 2 ^ s ∧ Dg (zV s l)
 | [], _ => by simp [zV, Dg.nil]
 | d :: l, hg => by
  have hd := hg.head
  have ih := zei hs l hg.tail
  have hl := zcx d.toNat (l.headD 0).toNat s hs (by omega)
  simp only [zV, zq, ih.1]
  refine ⟨?_, Dg.cons nn (zdf hl) ih.2⟩
  rw [← zfC (l := l) (by omega), Int.toNat_natCast]
  have h := pw (s := s) (by omega)
  have h' := pw' (s := s) (by omega)
  have e1 : (d.toNat + 4294967296 * V l) / 2 ^ s = d.toNat / 2 ^ s + 2 ^ (32 - s) * V l := by
   rw [← h, Nat.mul_assoc, Nat.add_mul_div_left _ _ (zp _)]
  have e2 : 2 ^ (32 - s) * V l = 2 ^ (32 - s) * (V l % 2 ^ s) + 4294967296 * (V l / 2 ^ s) := by
   rw [← h', Nat.mul_assoc, ← Nat.mul_add, Nat.mod_add_div]
  rw [e1, e2, Nat.add_assoc]
theorem zej {a : List Int} (ha : Dg a) (n : Nat) : V (zV (n % 32) (a.drop (n / 32))) = V a / 2 ^ n := by
 rw [(zei (by omega) _ (ha.drop _)).1, zb6 ha, Nat.div_div_eq_div_mul, ← zcm]
theorem zek (A : List Int) (hA : Dg A) (hl : A.length < 1000000000) {s : Nat} (hs : s < 32) : ∀ (a done pa : List Int), A = pa ++ a → done.length = pa.length → Dg done →
  Ev (fun k => zah.l0 k A s (done ++ List.replicate a.length 0) A A.length pa.length) (D (V (done ++ zV s a)))
 | [], done, pa, he, hd, hg => by
  have hlen : A.length = pa.length := by rw [he]; simp
  refine zf ?_
  simp only [zah.l0]
  (repeat (first | with_reducible refine ep ?_ | with_reducible refine en ?_))
  simp only [List.length_nil, List.replicate_zero, zV]
  exact Ev.bind (zbY (l := done ++ []) (by simpa using hg) (by simp; omega)) (Ev.now _)
 | d :: a, done, pa, he, hd, hg => by
  have hlen : A.length = pa.length + 1 + a.length := by rw [he]; simp; omega
  have hdd : 0 ≤ d ∧ d < 4294967296 := by rw [he] at hA; exact hA.right.head
  obtain ⟨X, rfl⟩ := Int.eq_ofNat_of_zero_le hdd.1
  have hX : X < 4294967296 := by omega
  have h1 : rd A (pa.length : Int) = (X : Int) := by rw [he]; exact zak rfl
  have hg2 : Dg (a) := by rw [he] at hA; exact hA.right.tail
  have hy := hg2.headD
  have ih := zek A hA hl hs a (done ++ [((X / 2 ^ s + 2 ^ (32 - s) * ((a.headD 0).toNat % 2 ^ s) : Nat) : Int)]) (pa ++ [(X : Int)]) (by rw [he]; simp) (by simp [hd])
   (hg.app (Dg.cons nn (zdf (zcx X (a.headD 0).toNat s hs hX)) Dg.nil))
  rw [@List.length_append _ pa, List.length_singleton] at ih
  refine zf ?_
  have hset : (done ++ List.replicate ((X : Int) :: a).length 0).set ((pa.length : Int)).toNat ((X / 2 ^ s : Nat) : Int) = (done ++ [((X / 2 ^ s : Nat) : Int)]) ++ List.replicate a.length 0 := by
   rw [List.length_cons, List.replicate_succ, zbx (by omega)]
  simp only [zah.l0, h1, zal (n := pa.length) (by omega), zby (k := .u32) X s (by simp [IntKind.bits]; omega), hset, Option.bind_some]
  have w32 : wrap64 (32 - (s : Int)) = 32 - (s : Int) := by unfold wrap64; omega
  (repeat (first | with_reducible refine ep ?_ | with_reducible refine en ?_))
  by_cases hn : a = []
  ·subst hn
   simp only [List.length_nil, Nat.add_zero] at hlen
   (repeat (first | with_reducible refine ep ?_ | with_reducible refine en ?_))
   refine zg (by simpa [zV] using ih) ?_
   simp [zV]
  ·obtain ⟨y, a', rfl⟩ := List.exists_cons_of_ne_nil hn
   obtain ⟨Y, rfl⟩ := Int.eq_ofNat_of_zero_le hy.1
   simp only [List.headD_cons] at hy ih
   have hlen' := hlen
   simp only [List.length_cons] at hlen'
   have h2 : rd A ((pa.length + 1 : Nat) : Int) = (Y : Int) := by rw [he, show pa ++ (X : Int) :: (Y : Int) :: a' = (pa ++ [(X : Int)]) ++ (Y : Int) :: a' by simp]; exact zak (by simp)
   have h3 : rd (done ++ [((X / 2 ^ s : Nat) : Int)] ++ List.replicate ((Y : Int) :: a').length 0) (pa.length : Int) = ((X / 2 ^ s : Nat) : Int) := by rw [List.append_assoc, List.singleton_append]; exact zak (by omega)
   have hset2 : (done ++ [((X / 2 ^ s : Nat) : Int)] ++ List.replicate ((Y : Int) :: a').length 0).set ((pa.length : Int)).toNat ((X / 2 ^ s + 2 ^ (32 - s) * (Y % 2 ^ s) : Nat) : Int) = done ++ [((X / 2 ^ s + 2 ^ (32 - s) * (Y % 2 ^ s) : Nat) : Int)] ++ List.replicate ((Y : Int) :: a').length 0 := by
    rw [List.append_assoc, List.singleton_append, zbx (by omega)]
   simp only [h2, h3, zf9 X Y s hs hX (by omega), hset2]
   (repeat (first | with_reducible refine ep ?_ | with_reducible refine en ?_))
   rw [Int.toNat_natCast] at ih
   refine zg ih ?_
   simp [zV]
theorem zgY {a : List Int} (ha : Dg a) (la : a.length < 1000000000) (n : Nat) (hn : n < 100000000000) : Ev (fun k => zah.f k a n) (D (V a / 2 ^ n)) := by
 unfold zah.f
 simp only [t32 (n := n) (by omega), m32]
 by_cases h : n / 32 ≥ a.length
 ·(repeat (first | with_reducible refine ep ?_ | with_reducible refine en ?_))
  have : V a / 2 ^ n = 0 := by
   rw [zcm, ← Nat.div_div_eq_div_mul, ← zb6 ha, List.drop_eq_nil_of_le h]; simp
  rw [this, zH]; exact Ev.now _
 ·(repeat (first | with_reducible refine ep ?_ | with_reducible refine en ?_))
  have h := zek (a.drop (n / 32)) (ha.drop _) (by simp; omega) (s := n % 32) (by omega) (a.drop (n / 32)) [] [] rfl rfl Dg.nil
  simp only [List.nil_append, zej ha] at h
  simp only [Int.toNat_natCast]
  simpa using h
theorem zhk {l : List Int} (h : Dg l) (hl : l.length < 1000000000) (i : Nat) (hi : i < 4611686018427387904) : zbL.f l i = some ((V l / 2 ^ i % 2 : Nat) : Int) := by
 unfold zbL.f
 simp only [t32 hi, m32]
 rw [if_neg (by omega)]
 by_cases hq : i / 32 ≥ l.length
 ·rw [if_pos (by omega)]
  have : V l / 2 ^ i = 0 := by
   rw [zcm, ← Nat.div_div_eq_div_mul, ← zb6 h, List.drop_eq_nil_of_le hq]; simp
  rw [this]; rfl
 ·rw [if_neg (by omega), if_pos nn, if_pos (by omega), if_pos nn]
  rw [rdn]
  have hx := h.getD (i / 32)
  obtain ⟨X, hX⟩ := Int.eq_ofNat_of_zero_le hx.1
  have hX2 : X < 4294967296 := by omega
  rw [hX, zby _ _ (by simp [IntKind.bits]; omega)]
  have hle : X / 2 ^ (i % 32) ≤ X := Nat.div_le_self _ _
  have e := u32_and_nat (X / 2 ^ (i % 32)) 1 (by omega) (by omega)
  rw [Nat.and_one_is_mod] at e
  rw [show (1 : Int) = ((1 : Nat) : Int) from rfl, e]
  congr 2
  rw [zcm i, ← Nat.div_div_eq_div_mul, ← zb6 h]
  have hd : l.drop (i / 32) = (X : Int) :: l.drop (i / 32 + 1) := by
   rw [List.drop_eq_getElem_cons (by omega)]
   congr 1
   rw [← hX, List.getD_eq_getElem?_getD, List.getElem?_eq_getElem (by omega)]; rfl
  rw [hd, zq, Int.toNat_natCast, ← pw (s := i % 32) (by omega), Nat.mul_assoc, Nat.add_mul_div_left _ _ (zp _)]
  have e3 : 2 ^ (32 - i % 32) = 2 * 2 ^ (31 - i % 32) := by
   rw [show 32 - i % 32 = (31 - i % 32) + 1 by omega, Nat.pow_succ, Nat.mul_comm]
  rw [e3, Nat.mul_assoc, Nat.add_mul_mod_self_left]
theorem zbG {l : List Int} (h : Dg l) : bl (V l) ≤ 32 * l.length := by
 apply zaa
 have := zaL h
 rwa [show (4294967296 : Nat) = 2 ^ 32 from rfl, ← Nat.pow_mul] at this
theorem zcS {n k : Nat} (h : n < 4294967296 ^ k) : (D n).length ≤ k := by
 rcases Nat.lt_or_ge k (D n).length with h1 | h1
 ·have h2 := zcR (zC n) (by intro e; rw [e] at h1; simp at h1)
  rw [V_D] at h2
  have h3 : 4294967296 ^ k ≤ 4294967296 ^ ((D n).length - 1) := Nat.pow_le_pow_right (by omega) (by omega)
  omega
 ·exact h1
theorem zeX (A : List Int) (hA : Dg A) (hl : A.length < 1000000000) (b : Bool) {s : Nat} (hs : s < 32) : ∀ (a done pa : List Int), A = pa ++ a → done.length + a.length < 1000000000 → Dg done →
  Ev (fun k => zab.l0 k A b done s pa.length) (D (V (done ++ zV s a)), b)
 | [], done, pa, he, hd, hg => by
  have hlen : A.length = pa.length := by rw [he]; simp
  refine zf ?_
  simp only [zab.l0]
  (repeat (first | with_reducible refine ep ?_ | with_reducible refine en ?_))
  simp only [zV, List.append_nil]
  exact Ev.bind (zdp hg (by simp at hd; omega)) (Ev.now _)
 | d :: a, done, pa, he, hd, hg => by
  have hlen : A.length = pa.length + 1 + a.length := by rw [he]; simp; omega
  have hdd : 0 ≤ d ∧ d < 4294967296 := by rw [he] at hA; exact hA.right.head
  obtain ⟨X, rfl⟩ := Int.eq_ofNat_of_zero_le hdd.1
  have hX : X < 4294967296 := by omega
  have h1 : rd A (pa.length : Int) = (X : Int) := by rw [he]; exact zak rfl
  have hg2 : Dg (a) := by rw [he] at hA; exact hA.right.tail
  have hy := hg2.headD
  have ih := zeX A hA hl b hs a (done ++ [((X / 2 ^ s + 2 ^ (32 - s) * ((a.headD 0).toNat % 2 ^ s) : Nat) : Int)]) (pa ++ [(X : Int)]) (by rw [he]; simp) (by simp at hd ⊢; omega)
   (hg.app (Dg.cons nn (zdf (zcx X (a.headD 0).toNat s hs hX)) Dg.nil))
  rw [@List.length_append _ pa, List.length_singleton] at ih
  have hXs : X / 2 ^ s ≤ X := Nat.div_le_self _ _
  have e0 : ((X / 2 ^ s : Nat) : Int) % 4294967296 = ((X / 2 ^ s : Nat) : Int) := by
   generalize X / 2 ^ s = z at *; omega
  refine zf ?_
  simp only [zab.l0, h1, zal (n := pa.length) (by omega)]
  (repeat (first | with_reducible refine ep ?_ | with_reducible refine en ?_))
  by_cases hn : a = []
  ·subst hn
   simp only [List.length_nil, Nat.add_zero] at hlen
   (repeat (first | with_reducible refine ep ?_ | with_reducible refine en ?_))
   rw [zcp _ hX, zby _ _ (by simp [IntKind.bits]; omega), e0]
   refine zg (by simpa [zV] using ih) ?_
   simp [zV]
  ·obtain ⟨y, a', rfl⟩ := List.exists_cons_of_ne_nil hn
   obtain ⟨Y, rfl⟩ := Int.eq_ofNat_of_zero_le hy.1
   simp only [List.headD_cons] at hy ih
   have hlen' := hlen
   have w32 : wrap64 (32 - (s : Int)) = 32 - (s : Int) := by unfold wrap64; omega
   have hd' := hd
   simp only [List.length_cons] at hd'
   simp only [List.length_cons] at hlen'
   have h2 : rd A ((pa.length + 1 : Nat) : Int) = (Y : Int) := by rw [he, show pa ++ (X : Int) :: (Y : Int) :: a' = (pa ++ [(X : Int)]) ++ (Y : Int) :: a' by simp]; exact zak (by simp)
   simp only [h2, zhj X Y s hs hX (by omega)]
   (repeat (first | with_reducible refine ep ?_ | with_reducible refine en ?_))
   rw [Int.toNat_natCast] at ih
   refine zg ih ?_
   simp [zV]
theorem zf1 {m n : Nat} : (zL m n ≥ 0) ↔ n ≤ m := by
 unfold zL; split
 ·constructor <;> intro h <;> omega
 ·split <;> constructor <;> intro h <;> omega
theorem zfi (a b : Nat) : Int.tmod (a : Int) (b : Int) = ((a % b : Nat) : Int) := rfl
theorem zed {m n : Nat} : (zL m n < 0) ↔ m < n := by
 have := zf1 (m := m) (n := n)
 constructor <;> intro h <;> omega
theorem zgU (a b : Nat) : mx (a : Int) (b : Int) = ((max a b : Nat) : Int) := by unfold mx; split <;> omega
theorem zbW {l : List Int} (h : Nm l) (hb : l.length ≤ 4096) : Ev (fun k => zR.f k l) ((bl (V l) : Nat) : Int) := by
 unfold zR.f
 refine zh (zaS h.dg (by omega)) ?_
 rw [zag.2 ⟨hb, h⟩]
 (repeat (first | with_reducible refine ep ?_ | with_reducible refine en ?_))
 by_cases c : l.length = 0
 ·have : l = [] := List.eq_nil_of_length_eq_zero c
  subst this
  (repeat (first | with_reducible refine ep ?_ | with_reducible refine en ?_))
  exact zg (Ev.now _) rfl
 ·have e : wrap64 ((l.length : Int) - 1) = ((l.length - 1 : Nat) : Int) := by unfold wrap64; omega
  rw [e]
  clear e
  have hd := h.dg.getD (l.length - 1)
  have hne : l ≠ [] := fun e => c (by rw [e]; rfl)
  rw [rdn]
  (repeat (first | with_reducible refine ep ?_ | with_reducible refine en ?_))
  refine Ev.bind (zgD hd) (zg (Ev.now _) ?_)
  rw [zdZ h hne]
  generalize l.getD (l.length - 1) 0 = x at hd
  have hbn : bl x.toNat ≤ 32 := zaa (by omega)
  unfold wrap64
  omega
def zP (n b : Nat) : Prop := ∃ m, n = 2 ^ b * (2 * m + 1)
theorem zP.ne {n b : Nat} (h : zP n b) : n ≠ 0 := by
 obtain ⟨m, h⟩ := h
 have := Nat.mul_pos (zp b) (show 0 < 2 * m + 1 by omega)
 omega
theorem zP.le {n b : Nat} (h : zP n b) : 2 ^ b ≤ n := by
 obtain ⟨m, h⟩ := h
 rw [h]; exact Nat.le_mul_of_pos_right _ (by omega)
theorem zP.mod {n b k : Nat} (h : zP n b) : n % 2 ^ k = 0 ↔ k ≤ b := by
 obtain ⟨m, h⟩ := h
 constructor
 ·intro hk
  rcases Nat.lt_or_ge b k with h1 | h1
  ·exfalso
   obtain ⟨d, rfl⟩ := Nat.exists_eq_add_of_lt h1
   have hd : 2 ^ (b + d + 1) ∣ 2 ^ b * (2 * m + 1) := by rw [← h]; exact Nat.dvd_of_mod_eq_zero hk
   rw [Nat.add_assoc, Nat.pow_add] at hd
   have h2 := Nat.dvd_of_mul_dvd_mul_left (zp b) hd
   rw [Nat.pow_succ] at h2
   have h3 : 2 ∣ 2 * m + 1 := Nat.dvd_trans (Nat.dvd_mul_left 2 _) h2
   omega
  ·exact h1
 ·intro hk
  obtain ⟨d, rfl⟩ := Nat.exists_eq_add_of_le hk
  rw [h, Nat.pow_add, Nat.mul_assoc]
  exact Nat.mul_mod_right _ _
theorem zP.unique {n b c : Nat} (h : zP n b) (k : zP n c) : b = c := by
 have h1 := (h.mod (k := b)).2 (Nat.le_refl _)
 have h2 := (k.mod (k := c)).2 (Nat.le_refl _)
 have h3 := k.mod.1 h1
 have h4 := h.mod.1 h2
 omega
theorem zgA {n b : Nat} (h : n % 2 ^ b = 0) (k : n / 2 ^ b % 2 = 1) : zP n b :=
 ⟨n / 2 ^ b / 2, by
  have h1 := Nat.div_add_mod n (2 ^ b)
  rw [h, Nat.add_zero] at h1
  have h2 : 2 * (n / 2 ^ b / 2) + 1 = n / 2 ^ b := by omega
  rw [h2, h1]⟩
theorem zev {n b k : Nat} (h : zP n b) : zP (n * 2 ^ k) (b + k) := by
 obtain ⟨m, h⟩ := h
 exact ⟨m, by rw [h, Nat.pow_add, Nat.mul_assoc, Nat.mul_comm (2 * m + 1), ← Nat.mul_assoc]⟩
theorem zgB {x : Nat} (h : x ≠ 0) (hx : x < 4294967296) : zP x (Lib.ctz 32 x) ∧ Lib.ctz 32 x < 32 := by
 obtain ⟨m, h1, h2⟩ := Lib.ctzFrom_spec 32 x (by omega) hx
 unfold Lib.ctz
 rw [if_neg h]
 exact ⟨⟨m, h1⟩, h2⟩
theorem zgz {x r b : Nat} (h : zP x b) (hb : b < 32) : zP (x + 4294967296 * r) b := by
 obtain ⟨m, h⟩ := h
 obtain ⟨d, hd⟩ : ∃ d, 32 = b + (d + 1) := ⟨31 - b, by omega⟩
 have e : 4294967296 = 2 ^ b * (2 ^ d * 2) := by
  rw [← Nat.pow_succ, ← Nat.pow_add, Nat.succ_eq_add_one, ← hd]
 have e2 : 2 ^ b * (2 ^ d * 2) * r = 2 ^ b * (2 * (2 ^ d * r)) := by
  rw [Nat.mul_assoc, Nat.mul_comm (2 ^ d) 2, Nat.mul_assoc]
 refine ⟨m + 2 ^ d * r, ?_⟩
 rw [h, e, e2, ← Nat.mul_add]
 congr 1
 omega
def lw (n : Nat) : Nat := if n = 0 then 0 else Lib.ctzFrom n n
theorem zbt {n : Nat} (h : n ≠ 0) : zP n (lw n) := by
 obtain ⟨m, h1, _⟩ := Lib.ctzFrom_spec n n (by omega) Nat.lt_two_pow_self
 unfold lw
 rw [if_neg h]
 exact ⟨m, h1⟩
theorem zcF {n b : Nat} (h : zP n b) : lw n = b := (zbt h.ne).unique h
theorem zhM {x : Int} (h : 0 ≤ x ∧ x < 4294967296) : z9.f x = some ((Lib.ctz 32 x.toNat : Nat) : Int) := by
 unfold z9.f
 rw [if_pos h]
theorem zhS {i b : Nat} (hi : i < 1000000) (hb : b < 32) : wrap64 (wrap64 (32 * (i : Int)) + (b : Int)) = ((b + 32 * i : Nat) : Int) := by unfold wrap64; omega
theorem zeK (A : List Int) (hA : Dg A) (hl : A.length < 1000000) : ∀ (a pa : List Int), A = pa ++ a → V pa = 0 → Ev (fun k => zS.l0 k A A.length pa.length) ((lw (V A) : Nat) : Int)
 | [], pa, he, hv => by
  have hlen : A.length = pa.length := by rw [he]; simp
  refine zf ?_
  simp only [zS.l0]
  (repeat (first | with_reducible refine ep ?_ | with_reducible refine en ?_))
  refine zg (Ev.now _) ?_
  have : V A = 0 := by rw [he, List.append_nil, hv]
  rw [this]; rfl
 | d :: a, pa, he, hv => by
  have hlen : A.length = pa.length + 1 + a.length := by rw [he]; simp; omega
  have hdd : 0 ≤ d ∧ d < 4294967296 := by rw [he] at hA; exact hA.right.head
  have h1 : rd A (pa.length : Int) = d := by rw [he]; exact zak rfl
  refine zf ?_
  simp only [zS.l0, h1, zal (n := pa.length) (by omega)]
  (repeat (first | with_reducible refine ep ?_ | with_reducible refine en ?_))
  by_cases h0 : d = 0
  ·refine ze (fun h => h h0) ?_
   have := zeK A hA hl a (pa ++ [0]) (by rw [he, h0]; simp) (by rw [zcU, hv])
   rwa [@List.length_append _ pa, List.length_singleton] at this
  ·refine zd h0 ?_
   refine zh (zhM hdd) ?_
   (repeat (first | with_reducible refine ep ?_ | with_reducible refine en ?_))
   refine zg (Ev.now _) ?_
   have hz := zgB (x := d.toNat) (by omega) (by omega)
   have e : V A = (d.toNat + 4294967296 * V a) * 2 ^ (32 * pa.length) := by
    rw [he, zaK, hv, zq, Nat.zero_add, Nat.mul_comm, Nat.pow_mul]
   rw [e, zcF (zev (zgz hz.1 hz.2)), zhS (by omega) hz.2]
theorem zeG {a : List Int} (ha : Nm a) (la : a.length ≤ 4096) : Ev (fun k => zS.f k a) ((lw (V a) : Nat) : Int) := by
 unfold zS.f
 refine zh (zaS ha.dg (by omega)) ?_
 rw [zag.2 ⟨la, ha⟩]
 (repeat (first | with_reducible refine ep ?_ | with_reducible refine en ?_))
 exact zeK a ha.dg (by omega) a [] rfl rfl
theorem zdK {l : List Int} (h : Dg l) (q : Nat) : V l / 4294967296 ^ q % 4294967296 = (l.getD q 0).toNat := by
 have h1 := zcq (l.drop q)
 rw [zc8, zb6 h] at h1
 have h2 := h.getD q
 rw [h1, Nat.add_mul_mod_self_left, Nat.mod_eq_of_lt (by omega)]
theorem zgS {n i : Nat} (h : n % 2 ^ i = 0) (k : n / 2 ^ i % 2 = 0) : n % 2 ^ (i + 1) = 0 := by
 rw [Nat.pow_succ, Nat.mod_mul, h, k, Nat.mul_zero]
theorem zgR {n q : Nat} (h : n % 2 ^ (32 * q) = 0) (k : n / 4294967296 ^ q % 4294967296 = 0) : n % 2 ^ (32 * q + 32) = 0 := by
 have e : 2 ^ (32 * q + 32) = 2 ^ (32 * q) * 4294967296 := by rw [Nat.pow_add]
 have e2 : 4294967296 ^ q = 2 ^ (32 * q) := by rw [Nat.pow_mul]
 rw [e, Nat.mod_mul, h, ← e2, k, Nat.mul_zero]
theorem zht {l : List Int} (h : Dg l) {i : Nat} (hi : i = 32 * l.length) (hm : V l % 2 ^ i = 0) : V l = 0 := by
 have hv := zaL h
 have e2 : 4294967296 ^ l.length = 2 ^ (32 * l.length) := by rw [Nat.pow_mul]
 rw [e2, ← hi] at hv
 rwa [Nat.mod_eq_of_lt hv] at hm
theorem zgb {i m : Nat} (h : i < 32 * m) : ((i / 32 : Nat) : Int) < (m : Int) := by omega
theorem zfb {i : Nat} (h : i < 100000000000) : wrap64 ((i : Int) + 1) = ((i + 1 : Nat) : Int) ∧ wrap64 ((i : Int) + 32) = ((i + 32 : Nat) : Int) := by unfold wrap64; omega
theorem zhu {l : List Int} (h : Dg l) (hl : l.length < 1000000000) (n : Nat) : ∀ (i : Nat), 32 * l.length - i ≤ n → i ≤ 32 * l.length → V l % 2 ^ i = 0 → (i % 32 = 0 ∨ l.getD (i / 32) 0 ≠ 0) → Ev (fun k => zY.l0 k l i) ((lw (V l) : Nat) : Int) := by
 induction n using Nat.strongRecOn with
 | _ n ih =>
  intro i hn hi hm hd
  have e32 : wrap64 (32 * (l.length : Int)) = ((32 * l.length : Nat) : Int) := by unfold wrap64; omega
  refine zf ?_
  simp only [zY.l0, e32]
  by_cases hlt : i < 32 * l.length
  ·have hb := zhk h hl i (by clear hm hd; omega)
   refine zd (by clear hm hd; omega) ?_
   refine zh hb ?_
   have hi9 : i < 100000000000 := by clear hm hd; omega
   have hn1 : 32 * l.length - (i + 1) < n := by clear hm hd; omega
   have hn32 : 32 * l.length - (i + 32) < n := by clear hm hd; omega
   have hi1 : i + 1 ≤ 32 * l.length := hlt
   have hi32 : i % 32 = 0 → i + 32 ≤ 32 * l.length := by clear hm hd; omega
   have hne : i ≠ 32 * l.length := by clear hm hd; omega
   have et : wrap64 (Int.tdiv (i : Int) 32) = ((i / 32 : Nat) : Int) := t32 (by clear hm hd; omega)
   have hdv := zgb hlt
   simp only [et, rdn]
   rw [(zfb hi9).1, (zfb hi9).2]
   clear et e32
   rcases Nat.mod_two_eq_zero_or_one (V l / 2 ^ i) with hz | hz
   ·rw [hz]
    refine zd rfl (zd nn (zd hdv ?_))
    by_cases h0 : l.getD (i / 32) 0 = 0
    ·have hi0 : i % 32 = 0 := hd.resolve_right (fun h => h h0)
     have hi33 := hi32 hi0
     obtain ⟨q, hq0⟩ : ∃ q, i = 32 * q := ⟨i / 32, by clear hm hd hz; omega⟩
     subst hq0
     have hq : 32 * q / 32 = q := by clear hm hd hz; omega
     rw [hq] at h0
     rw [hq]
     refine zd h0 ?_
     refine ih _ hn32 (32 * q + 32) (Nat.le_refl _) hi33 (zgR hm ?_) (.inl ?_)
     ·rw [zdK h, h0]; rfl
     ·clear hm hd hz; omega
    ·refine ze h0 ?_
     refine ih _ hn1 (i + 1) (Nat.le_refl _) hi1 (zgS hm hz) ?_
     clear hm hd hz
     rcases Nat.eq_zero_or_pos ((i + 1) % 32) with h1 | h1
     ·exact .inl h1
     ·have : (i + 1) / 32 = i / 32 := by omega
      rw [this]; exact .inr h0
   ·rw [hz]
    refine ze (by decide) ?_
    refine ze (fun e => hne (Int.ofNat.inj e)) ?_
    refine zg (Ev.now _) ?_
    rw [zcF (zgA hm hz)]
  ·have hi2 : i = 32 * l.length := by clear hm hd; omega
   refine ze (by clear hm hd; omega) ?_
   refine zd (by rw [hi2]) ?_
   refine zg (Ev.now _) ?_
   rw [zht h hi2 hm]; rfl
theorem ze0 {l : List Int} (h : Dg l) (hl : l.length < 1000000000) : Ev (fun k => zY.f k l) ((lw (V l) : Nat) : Int) := by
 unfold zY.f
 exact zhu h hl _ 0 (Nat.le_refl _) (by omega) (by rw [Nat.pow_zero, Nat.mod_one]) (.inl rfl)
theorem zeB {n k : Nat} (h : n ≠ 0) : k > lw n ↔ n % 2 ^ k ≠ 0 := by
 have := (zbt h).mod (k := k)
 constructor
 ·intro h1 h2; have := this.1 h2; omega
 ·intro h1; rcases Nat.lt_or_ge (lw n) k with h2 | h2
  ·exact h2
  ·exact absurd (this.2 h2) h1
theorem zhl {a : List Int} (ha : Nm a) (la : a.length < 100000000) (n : Nat) (hn : n < 1000000000) : Ev (fun k => zab.f k a n) (D (V a / 2 ^ n), decide (V a % 2 ^ n ≠ 0)) := by
 unfold zab.f
 have hlt := zaC (V a)
 by_cases h : n ≥ bl (V a)
 ·have hp : V a < 2 ^ n := Nat.lt_of_lt_of_le hlt (Nat.pow_le_pow_right (by omega) h)
  refine Ev.bind (zeZ ha (by omega)) ?_
  (repeat (first | with_reducible refine ep ?_ | with_reducible refine en ?_))
  refine zg (Ev.now _) ?_
  rw [Nat.div_eq_of_lt hp, zH, Nat.mod_eq_of_lt hp]
  congr 1
  refine decide_eq_decide.2 ?_
  have := zb7 ha
  have hl : a.length = 0 ↔ a = [] := List.length_eq_zero_iff
  constructor
  ·intro h1 h2; have := hl.2 (this.1 h2); omega
  ·intro h1
   rcases Nat.eq_zero_or_pos a.length with h3 | h3
   ·exact absurd (this.2 (hl.1 h3)) h1
   ·omega
 ·have h0 : V a ≠ 0 := by
   intro h0; rw [h0, zcw] at h; omega
  refine Ev.bind (zeZ ha (by omega)) ?_
  (repeat (first | with_reducible refine ep ?_ | with_reducible refine en ?_))
  refine Ev.bind (ze0 ha.dg (by omega)) ?_
  (repeat (first | with_reducible refine ep ?_ | with_reducible refine en ?_))
  have hd : decide ((n : Int) > ((lw (V a) : Nat) : Int)) = decide (V a % 2 ^ n ≠ 0) := decide_eq_decide.2 (by rw [← zeB h0]; omega)
  rw [hd]
  simp only [t32 (n := n) (by omega), m32]
  have hbl := zbG ha.dg
  have hq : n / 32 ≤ a.length := by omega
  have h1 := zeX a ha.dg (by omega) (decide (V a % 2 ^ n ≠ 0)) (s := n % 32) (by omega) (a.drop (n / 32)) [] (a.take (n / 32)) (by simp) (by simp; omega) Dg.nil
  rw [List.length_take, Nat.min_eq_left hq, List.nil_append, zej ha.dg] at h1
  exact h1
def zba (v : Nat) (n : Int) : List Int × Bool × Int :=
 if v = 0 then ([], false, 0) else if n < -131072 then ([], true, 0) else if n < 0 then (D (v / 2 ^ (-n).toNat), decide (v % 2 ^ (-n).toNat ≠ 0), 0) else if n > 131072 - (bl v : Int) then ([], false, 3) else (D (v * 2 ^ n.toNat), false, 0)
theorem zcj {a : List Int} (ha : Nm a) (la : a.length ≤ 4096) (n : Int) : Ev (fun k => zN.f k a n) (zba (V a) n) := by
 unfold zN.f zba
 refine zh (zaS ha.dg (by omega)) ?_
 rw [zag.2 ⟨la, ha⟩]
 (repeat (first | with_reducible refine ep ?_ | with_reducible refine en ?_))
 by_cases c : a = []
 ·subst c
  (repeat (first | with_reducible refine ep ?_ | with_reducible refine en ?_))
  exact zg (Ev.now _) (by simp)
 have h0 : V a ≠ 0 := fun h => c ((zb7 ha).1 h)
 have hl : a.length ≠ 0 := fun h => c (List.eq_nil_of_length_eq_zero h)
 have hbl := zbG ha.dg
 rw [if_neg h0]
 (repeat (first | with_reducible refine ep ?_ | with_reducible refine en ?_))
 by_cases h1 : n < -131072
 ·rw [if_pos h1]; exact zd h1 (Ev.now _)
 rw [if_neg h1]
 refine ze h1 ?_
 by_cases h2 : n < 0
 ·rw [if_pos h2]
  have e : wrap64 (-n) = (((-n).toNat : Nat) : Int) := by unfold wrap64; omega
  rw [e]
  clear e
  have hm : (-n).toNat ≤ 131072 := by omega
  generalize (-n).toNat = m at *
  refine zd h2 ?_
  refine Ev.bind (zgY ha.dg (by omega) m (by omega)) ?_
  (repeat (first | with_reducible refine ep ?_ | with_reducible refine en ?_))
  refine Ev.bind (zeG ha la) ?_
  (repeat (first | with_reducible refine ep ?_ | with_reducible refine en ?_))
  refine zg (Ev.now _) ?_
  congr 2
  exact decide_eq_decide.2 (by rw [← zeB h0]; omega)
 ·rw [if_neg h2]
  have e : wrap64 (131072 - ((bl (V a) : Nat) : Int)) = 131072 - ((bl (V a) : Nat) : Int) := by unfold wrap64; omega
  refine ze h2 ?_
  refine Ev.bind (zbW ha la) ?_
  (repeat (first | with_reducible refine ep ?_ | with_reducible refine en ?_))
  rw [e]
  clear e
  by_cases h3 : n > 131072 - ((bl (V a) : Nat) : Int)
  ·rw [if_pos h3]; exact zd h3 (Ev.now _)
  ·rw [if_neg h3]
   obtain ⟨m, rfl⟩ := Int.eq_ofNat_of_zero_le (show 0 ≤ n by omega)
   refine ze h3 ?_
   refine Ev.bind (zg1 ha.dg (by omega) m (by omega)) ?_
   (repeat (first | with_reducible refine ep ?_ | with_reducible refine en ?_))
   refine zg (Ev.now _) ?_
   rw [Int.toNat_natCast]
theorem z5 {x k : Nat} (h : bl x ≤ 32 * k) : (D x).length ≤ k := by
 refine zcS ?_
 have e : 4294967296 ^ k = 2 ^ (32 * k) := by rw [Nat.pow_mul]
 rw [e]
 exact Nat.lt_of_lt_of_le (zaC x) (Nat.pow_le_pow_right (by omega) h)
theorem zb9 (v m : Nat) : bl (v * 2 ^ m) ≤ bl v + m := by
 refine zaa ?_
 rw [Nat.pow_add]
 exact Nat.mul_lt_mul_of_pos_right (zaC v) (zp m)
theorem zfT {v : Nat} (h : v ≠ 0) (m : Nat) : bl (v * 2 ^ m) = bl v + m := by
 rw [zbH (n := v * 2 ^ m) (k := m) (Nat.le_mul_of_pos_left _ (by omega)), Nat.mul_div_cancel _ (zp m), Nat.add_comm]
theorem zd2 (v m : Nat) : bl (v / 2 ^ m) = bl v - m := by
 rcases Nat.lt_or_ge v (2 ^ m) with h | h
 ·rw [Nat.div_eq_of_lt h, zcw]
  have := zaa h
  omega
 ·rw [zbH h]; omega
theorem zcM {v m : Nat} (h : bl v + m ≤ 131072) : zba v (m : Int) = (D (v * 2 ^ m), false, 0) := by
 unfold zba
 by_cases hv : v = 0
 ·rw [if_pos hv, hv, Nat.zero_mul, zH]
 ·rw [if_neg hv, if_neg (by omega), if_neg (by omega), if_neg (by omega), Int.toNat_natCast]
theorem zhA {v m : Nat} (h : bl v ≤ 131072) (hm : m ≤ 131072) : zba v (-(m : Int)) = (D (v / 2 ^ m), decide (v % 2 ^ m ≠ 0), 0) := by
 by_cases hv : v = 0
 ·unfold zba
  rw [if_pos hv, hv, Nat.zero_div, Nat.zero_mod, zH]; rfl
 rcases Nat.eq_zero_or_pos m with h0 | h0
 ·subst h0
  have e := zcM (v := v) (m := 0) (by omega)
  rw [Nat.pow_zero, Nat.mul_one] at e
  rw [Nat.pow_zero, Nat.div_one, Nat.mod_one]
  exact e
 ·unfold zba
  have e : (-(-(m : Int))).toNat = m := by omega
  rw [if_neg hv, if_neg (by omega), if_pos (by omega), e]
theorem zgF {a b L M : Nat} (ha : (D a).length ≤ L) (hb : (D b).length ≤ M) : (D (a * b)).length ≤ L + M := by
 refine zcS ?_
 rw [Nat.pow_add]
 exact Nat.mul_lt_mul'' (Nat.lt_of_lt_of_le (zcE a) (Nat.pow_le_pow_right (by omega) ha)) (Nat.lt_of_lt_of_le (zcE b) (Nat.pow_le_pow_right (by omega) hb))
def sv (s : Bool) (n : Nat) : Int := if s = true then -(n : Int) else n
theorem zaU (s : Bool) (n : Nat) : (sv s n).natAbs = n := by unfold sv; split <;> simp
theorem zbz {s : Bool} {n : Nat} : sv s n = 0 ↔ n = 0 := by unfold sv; split <;> omega
theorem zfe {s : Bool} {n : Nat} (h : n ≠ 0) : decide (sv s n < 0) = s := by
 unfold sv
 cases s
 ·exact decide_eq_false (by simp)
 ·exact decide_eq_true (by simp; omega)
theorem zas (s : Bool) : sv s 0 = 0 := by unfold sv; split <;> rfl
def mk (z e : Int) : Bool × List Int × Int := if z = 0 then (false, [], 0) else (decide (z < 0), D (z.natAbs / 2 ^ lw z.natAbs), e + (lw z.natAbs : Nat))
theorem zgI {n : Nat} (h : n ≠ 0) (k : Nat) : lw (n * 2 ^ k) = lw n + k := zcF (zev (zbt h))
theorem zbV (z e : Int) (k : Nat) : mk (z * 2 ^ k) e = mk z (e + k) := by
 unfold mk
 by_cases h : z = 0
 ·subst h; simp
 ·have hp : (0 : Int) < 2 ^ k := Int.pow_pos (by omega)
  have h1 : z * 2 ^ k ≠ 0 := Int.mul_ne_zero h (by omega)
  have hn : z.natAbs ≠ 0 := by omega
  have h2 : (z * 2 ^ k).natAbs = z.natAbs * 2 ^ k := by rw [Int.natAbs_mul, Int.natAbs_pow]; rfl
  have h3 : decide (z * 2 ^ k < 0) = decide (z < 0) := decide_eq_decide.2 (by
   constructor
   ·intro h4
    rcases (show z < 0 ∨ 0 ≤ z by omega) with h5 | h5
    ·exact h5
    ·have := Int.mul_nonneg h5 (Int.le_of_lt hp); omega
   ·intro h4; exact Int.mul_neg_of_neg_of_pos h4 hp)
  rw [if_neg h, if_neg h1, h2, h3, zgI hn]
  have h4 : z.natAbs * 2 ^ k / 2 ^ (lw z.natAbs + k) = z.natAbs / 2 ^ lw z.natAbs := by
   rw [Nat.pow_add]; exact Nat.mul_div_mul_right _ _ (zp k)
  rw [h4]
  congr 2
  omega
structure Dy (s : Bool) (l : List Int) (e : Int) : Prop where
 nm : Nm l
 none : l = [] → s = false ∧ e = 0
 odd : l ≠ [] → V l % 2 = 1
theorem zcH {n : Nat} (h : n % 2 = 1) : lw n = 0 := zcF ⟨n / 2, by rw [Nat.pow_zero, Nat.one_mul]; omega⟩
theorem zdh {s : Bool} {l : List Int} {e : Int} (h : Dy s l e) : mk (sv s (V l)) e = (s, l, e) := by
 unfold mk
 by_cases c : l = []
 ·obtain ⟨h1, h2⟩ := h.none c
  subst c; subst h1; subst h2
  rfl
 ·have h1 := h.odd c
  have h0 : V l ≠ 0 := by omega
  rw [if_neg (fun h => h0 (zbz.1 h)), zaU, zfe h0, zcH h1, Nat.pow_zero, Nat.div_one, h.nm]
  simp
theorem zbg (z e : Int) : Dy (mk z e).1 (mk z e).2.1 (mk z e).2.2 := by
 unfold mk
 by_cases h : z = 0
 ·rw [if_pos h]; exact ⟨zaV, fun _ => ⟨rfl, rfl⟩, fun h => absurd rfl h⟩
 ·rw [if_neg h]
  obtain ⟨m, hm⟩ := zbt (n := z.natAbs) (by omega)
  have h1 : z.natAbs / 2 ^ lw z.natAbs = 2 * m + 1 := by
   have : z.natAbs / 2 ^ lw z.natAbs = 2 ^ lw z.natAbs * (2 * m + 1) / 2 ^ lw z.natAbs := by rw [← hm]
   rw [this, Nat.mul_div_cancel_left _ (zp _)]
  have h2 : D (z.natAbs / 2 ^ lw z.natAbs) ≠ [] := by rw [h1, zbE (by omega)]; simp
  exact ⟨zC _, fun h => absurd h h2, fun _ => by show V (D _) % 2 = 1; rw [V_D, h1]; omega⟩
theorem zci (s : Bool) {n : Nat} (h : n ≠ 0) (e : Int) : mk (sv s n) e = (s, D (n / 2 ^ lw n), e + (lw n : Nat)) := by
 unfold mk
 rw [if_neg (fun h2 => h (zbz.1 h2)), zaU, zfe h]
theorem zcG {n : Nat} (h : n ≠ 0) : lw n < bl n := by
 have h1 := (zbt h).le
 rcases Nat.lt_or_ge (lw n) (bl n) with h2 | h2
 ·exact h2
 ·have h3 := zaC n
  have h4 : 2 ^ bl n ≤ 2 ^ lw n := Nat.pow_le_pow_right (by omega) h2
  omega
theorem zai {l : List Int} : (l.length : Int) = 0 ↔ l = [] := by
 constructor
 ·intro h; exact List.eq_nil_of_length_eq_zero (by omega)
 ·intro h; rw [h]; rfl
theorem zdy {e : Int} {b : Nat} (h1 : -1000000000000000 ≤ e) (h2 : e ≤ 1000000000000000) (hb : b < 100000000000) : wrap64 (e + (b : Int)) = e + (b : Int) := by unfold wrap64; omega
theorem zeY (s : Bool) {l : List Int} (hl : Nm l) (ll : l.length < 10000000) {e : Int} (h1 : -1000000000000000 ≤ e) (h2 : e ≤ 1000000000000000) : Ev (fun k => zaz.f k s l e) (mk (sv s (V l)) e) := by
 unfold zaz.f
 by_cases c : l = []
 ·subst c
  (repeat (first | with_reducible refine ep ?_ | with_reducible refine en ?_))
  exact zg (Ev.now _) (by rw [zU, zas]; rfl)
 ·have h0 : V l ≠ 0 := fun h => c ((zb7 hl).1 h)
  have hb := zbG hl.dg
  have hw := zcG h0
  refine ze (fun h => c (zai.1 h)) ?_
  refine Ev.bind (ze0 hl.dg (by omega)) ?_
  (repeat (first | with_reducible refine ep ?_ | with_reducible refine en ?_))
  refine Ev.bind (zhl hl (by omega) (lw (V l)) (by omega)) ?_
  (repeat (first | with_reducible refine ep ?_ | with_reducible refine en ?_))
  refine zg (Ev.now _) ?_
  rw [zci s h0, zdy h1 h2 (by omega)]
def zcg (s : Bool) (n : Nat) (e : Int) : Bool × List Int × Int × Int :=
 if n = 0 then (false, [], 0, 0) else if e > 16777216 - (lw n : Nat) then (false, [], 0, 20) else if e < -16777216 - (lw n : Nat) then (false, [], 0, 20) else ((mk (sv s n) e).1, (mk (sv s n) e).2.1, (mk (sv s n) e).2.2, 0)
theorem zbn (s : Bool) {l : List Int} (hl : Nm l) (ll : l.length ≤ 4096) (e : Int) : Ev (fun k => zM.f k s l e) (zcg s (V l) e) := by
 unfold zM.f zcg
 refine zh (zaS hl.dg (by omega)) ?_
 rw [zag.2 ⟨ll, hl⟩]
 (repeat (first | with_reducible refine ep ?_ | with_reducible refine en ?_))
 by_cases c : l = []
 ·subst c
  (repeat (first | with_reducible refine ep ?_ | with_reducible refine en ?_))
  exact zg (Ev.now _) (by rw [zU, if_pos rfl])
 ·have h0 : V l ≠ 0 := fun h => c ((zb7 hl).1 h)
  have hb := zbG hl.dg
  have hw := zcG h0
  rw [if_neg h0]
  refine ze (fun h => c (zai.1 h)) ?_
  refine Ev.bind (zeG hl ll) ?_
  (repeat (first | with_reducible refine ep ?_ | with_reducible refine en ?_))
  have e1 : wrap64 (16777216 - ((lw (V l) : Nat) : Int)) = 16777216 - ((lw (V l) : Nat) : Int) := by unfold wrap64; omega
  have e2 : wrap64 (-16777216 - ((lw (V l) : Nat) : Int)) = -16777216 - ((lw (V l) : Nat) : Int) := by unfold wrap64; omega
  have e3 : wrap64 (-((lw (V l) : Nat) : Int)) = -((lw (V l) : Nat) : Int) := by unfold wrap64; omega
  rw [e1, e2, e3]
  clear e1 e2 e3
  by_cases h1 : e > 16777216 - ((lw (V l) : Nat) : Int)
  ·rw [if_pos h1]; exact zd h1 (Ev.now _)
  rw [if_neg h1]
  refine ze h1 ?_
  by_cases h2 : e < -16777216 - ((lw (V l) : Nat) : Int)
  ·rw [if_pos h2]; exact zd h2 (Ev.now _)
  rw [if_neg h2]
  have hs := zcj hl ll (-((lw (V l) : Nat) : Int))
  rw [zhA (by omega) (by omega)] at hs
  refine ze h2 ?_
  refine Ev.bind hs ?_
  (repeat (first | with_reducible refine ep ?_ | with_reducible refine en ?_))
  refine zg (Ev.now _) ?_
  rw [zci s h0, zdy (by omega) (by omega) (by omega)]
def al (z e m : Int) : Int := z * 2 ^ (e - m).toNat
theorem zch {z e m : Int} (h : m ≤ e) : mk (al z e m) m = mk z e := by
 unfold al
 rw [zbV]
 congr 1
 omega
theorem zc2 (e m : Int) : al 0 e m = 0 := by unfold al; rw [Int.zero_mul]
theorem zcr {z e m n : Int} (h1 : m ≤ e) (h2 : n ≤ m) : al (al z e m) m n = al z e n := by
 unfold al
 rw [Int.mul_assoc, ← Int.pow_add]
 congr 2
 omega
theorem zfG (x y e m : Int) : al (x + y) e m = al x e m + al y e m := by unfold al; rw [Int.add_mul]
theorem zct (s : Bool) (n : Nat) (e m : Int) : al (sv s n) e m = sv s (n * 2 ^ (e - m).toNat) := by
 unfold al sv
 split
 ·rw [Int.neg_mul, Int.natCast_mul, Int.natCast_pow]; rfl
 ·rw [Int.natCast_mul, Int.natCast_pow]; rfl
theorem zhH (s : Bool) (x y : Nat) : sv s x + sv s y = sv s (x + y) := by unfold sv; split <;> omega
theorem zfg {s t : Bool} (h : s ≠ t) {x y : Nat} (hl : y ≤ x) : sv s x + sv t y = sv s (x - y) := by
 unfold sv
 cases s <;> cases t <;> simp at h ⊢ <;> omega
theorem zff (s : Bool) (n : Nat) : sv (!s) n = -sv s n := by unfold sv; cases s <;> simp
def zw (za ea zb eb : Int) : Bool × List Int × Int := mk (al za ea (min ea eb) + al zb eb (min ea eb)) (min ea eb)
theorem zcX {za ea zb eb m : Int} (h1 : m ≤ ea) (h2 : m ≤ eb) : mk (al za ea m + al zb eb m) m = zw za ea zb eb := by
 unfold zw
 have h3 : m ≤ min ea eb := by omega
 rw [← zcr (z := za) (e := ea) (m := min ea eb) (n := m) (by omega) h3, ← zcr (z := zb) (e := eb) (m := min ea eb) (n := m) (by omega) h3, ← zfG]
 exact zch h3
theorem zcZ (ea zb eb : Int) : zw 0 ea zb eb = mk zb eb := by
 unfold zw; rw [zc2, Int.zero_add]; exact zch (by omega)
theorem zfE (za ea eb : Int) : zw za ea 0 eb = mk za ea := by
 unfold zw; rw [zc2, Int.add_zero]; exact zch (by omega)
theorem zcD {l : List Int} (c : l ≠ []) : (l.length : Int) > 0 := by
 have := List.length_pos_iff.2 c
 omega
theorem zgK {z e : Int} : (mk z e).2.1 = D (z.natAbs / 2 ^ lw z.natAbs) := by
 unfold mk
 by_cases h : z = 0
 ·subst h; rw [if_pos rfl]; simp [zH]
 ·rw [if_neg h]
theorem zbb {s : Bool} {n : Nat} (h : n ≠ 0) : (sv s n).sign = if s = true then -1 else 1 := by
 unfold sv
 split
 ·exact Int.sign_eq_neg_one_of_neg (by omega)
 ·exact Int.sign_eq_one_of_pos (by omega)
theorem zhr {s : Bool} {l : List Int} {e : Int} (h : Dy s l e) : zbM.f s l e = some (sv s (V l)).sign := by
 unfold zbM.f
 by_cases c : l = []
 ·subst c
  rw [if_pos (zai.2 rfl), zU, zas]; rfl
 ·have h1 := h.odd c
  have h0 : V l ≠ 0 := by omega
  rw [if_neg (fun h => c (zai.1 h)), zbb h0]
  split <;> rfl
def top (z e : Int) : Int := if z = 0 then 0 else e + (bl z.natAbs : Nat)
theorem zfd (s t : Bool) (x y : Nat) : sv s x * sv t y = sv (s != t) (x * y) := by
 unfold sv
 cases s <;> cases t <;> simp [Int.mul_neg, Int.neg_mul]
theorem zg2 (s t : Bool) : decide (¬ s = t) = (s != t) := by cases s <;> cases t <;> rfl
theorem zhm {sa sb : Bool} {la lb : List Int} {ea eb : Int} (ha : Dy sa la ea) (hb : Dy sb lb eb) (l1 : la.length ≤ 1000000) (l2 : lb.length ≤ 1000000) (h1 : -100000000000000 ≤ ea) (h2 : ea ≤ 100000000000000) (h3 : -100000000000000 ≤ eb) (h4 : eb ≤ 100000000000000) :
  Ev (fun k => zaO.f k sa la ea sb lb eb) (mk (sv sa (V la) * sv sb (V lb)) (ea + eb)) := by
 unfold zaO.f
 have e : wrap64 (ea + eb) = ea + eb := by unfold wrap64; omega
 rw [e]
 have hl : (D (V la * V lb)).length ≤ la.length + lb.length := zgF (by rw [ha.nm.len]; exact Nat.le_refl _) (by rw [hb.nm.len]; exact Nat.le_refl _)
 have hf := zeY (sa != sb) (zC (V la * V lb)) (by omega) (e := ea + eb) (by omega) (by omega)
 rw [V_D] at hf
 refine Ev.bind (zhn ha.nm.dg hb.nm.dg (by omega) (by omega)) ?_
 (repeat (first | with_reducible refine ep ?_ | with_reducible refine en ?_))
 rw [zg2]
 refine Ev.bind hf ?_
 (repeat (first | with_reducible refine ep ?_ | with_reducible refine en ?_))
 refine zg (Ev.now _) ?_
 rw [zfd]
theorem zhp (s : Bool) (l : List Int) (e : Int) (s' : Bool) (l' : List Int) (e' : Int) (hb : l.length < 4611686018427387904) : Ev (fun k => zaZ.f k s l e s' l' e') (decide ((s, l, e) = (s', l', e'))) := by
 unfold zaZ.f
 by_cases h1 : s = s'
 ·by_cases h2 : e = e'
  ·refine zd (by simpa using h1) ?_
   refine zd h2 ?_
   refine Ev.bind (zhq l l' hb) ?_
   (repeat (first | with_reducible refine ep ?_ | with_reducible refine en ?_))
   refine zg (Ev.now _) ?_
   exact decide_eq_decide.2 (by simp [h1, h2])
  ·refine zd (by simpa using h1) ?_
   refine ze h2 ?_
   exact zg (Ev.now _) (decide_eq_false (by simp [h2])).symm
 ·refine ze (by simpa using h1) ?_
  exact zg (Ev.now _) (decide_eq_false (by simp [h1])).symm
theorem zdm (k : Nat) : (0 : Int) < 2 ^ k := Int.pow_pos (by omega)
theorem zaW (z e m : Int) : (al z e m).sign = z.sign := by
 unfold al
 rw [Int.sign_mul, Int.sign_eq_one_of_pos (zdm _), Int.mul_one]
theorem zdT (z e m : Int) : (al z e m).natAbs = z.natAbs * 2 ^ (e - m).toNat := by
 unfold al
 rw [Int.natAbs_mul, Int.natAbs_pow]; rfl
theorem zdU {z e m : Int} (h : z ≠ 0) (hm : m ≤ e) : ((bl (al z e m).natAbs : Nat) : Int) + m = top z e := by
 rw [zdT, zfT (by omega)]
 unfold top
 rw [if_neg h]
 omega
theorem zeA {x y : Nat} (h : bl x < bl y) : x < y := by
 rcases Nat.lt_or_ge x y with h1 | h1
 ·exact h1
 ·have := zb8 h1; omega
def zm (za ea zb eb : Int) : Int := (al za ea (min ea eb) - al zb eb (min ea eb)).sign
theorem zc6 {a b : Int} : (a - b).sign = if a < b then -1 else if b < a then 1 else 0 := by
 split
 ·exact Int.sign_eq_neg_one_of_neg (by omega)
 ·split
  ·exact Int.sign_eq_one_of_pos (by omega)
  ·have : a - b = 0 := by omega
   rw [this]; rfl
theorem zaJ (z : Int) : (z < 0 ∧ z.sign = -1) ∨ (z = 0 ∧ z.sign = 0) ∨ (0 < z ∧ z.sign = 1) := by
 rcases Int.lt_trichotomy z 0 with h | h | h
 ·exact .inl ⟨h, Int.sign_eq_neg_one_of_neg h⟩
 ·exact .inr (.inl ⟨h, by rw [h]; rfl⟩)
 ·exact .inr (.inr ⟨h, Int.sign_eq_one_of_pos h⟩)
theorem zf2 {a b : Int} (h : a.sign ≠ b.sign) : (a - b).sign = if a.sign < b.sign then -1 else 1 := by
 rw [zc6]
 rcases zaJ a with ⟨h1, e1⟩ | ⟨h1, e1⟩ | ⟨h1, e1⟩ <;> rcases zaJ b with ⟨h2, e2⟩ | ⟨h2, e2⟩ | ⟨h2, e2⟩ <;> rw [e1, e2] at h ⊢ <;> first | exact absurd rfl h | (simp <;> omega)
theorem zef {a b : Int} (h : a.sign = b.sign) (h0 : a.sign ≠ 0) (hl : bl a.natAbs ≠ bl b.natAbs) : (a - b).sign = if (decide (bl a.natAbs < bl b.natAbs) == decide (a.sign > 0)) = true then -1 else 1 := by
 rw [zc6]
 have hlt : bl a.natAbs < bl b.natAbs ∨ bl b.natAbs < bl a.natAbs := by omega
 have hn : a.natAbs ≠ b.natAbs := fun e => hl (by rw [e])
 rcases hlt with h1 | h1
 ·have h2 := zeA h1
  rw [decide_eq_true h1]
  rcases zaJ a with ⟨h3, e1⟩ | ⟨h3, e1⟩ | ⟨h3, e1⟩
  ·rw [e1] at h ⊢
   have : b < 0 := by rcases zaJ b with ⟨h4, e2⟩ | ⟨h4, e2⟩ | ⟨h4, e2⟩ <;> omega
   rw [if_neg (by omega), if_pos (by omega)]; rfl
  ·exact absurd e1 h0
  ·rw [e1] at h ⊢
   have : 0 < b := by rcases zaJ b with ⟨h4, e2⟩ | ⟨h4, e2⟩ | ⟨h4, e2⟩ <;> omega
   rw [if_pos (by omega)]; rfl
 ·have h2 := zeA h1
  rw [decide_eq_false (by omega : ¬ bl a.natAbs < bl b.natAbs)]
  rcases zaJ a with ⟨h3, e1⟩ | ⟨h3, e1⟩ | ⟨h3, e1⟩
  ·rw [e1] at h ⊢
   have : b < 0 := by rcases zaJ b with ⟨h4, e2⟩ | ⟨h4, e2⟩ | ⟨h4, e2⟩ <;> omega
   rw [if_pos (by omega)]; rfl
  ·exact absurd e1 h0
  ·rw [e1] at h ⊢
   have : 0 < b := by rcases zaJ b with ⟨h4, e2⟩ | ⟨h4, e2⟩ | ⟨h4, e2⟩ <;> omega
   rw [if_neg (by omega), if_pos (by omega)]; rfl
theorem zfK (X : Nat) (hX : X < 4294967296) : Go.bits .and .u32 (X : Int) 1 = ((X % 2 : Nat) : Int) := by
 have h1 : (BitVec.ofInt 32 (X : Int)).toNat = X := by
  rw [BitVec.ofInt_natCast, BitVec.toNat_ofNat]; exact Nat.mod_eq_of_lt (by omega)
 show IntKind.u32.wrap ((BitVec.ofInt 32 (X : Int) &&& BitVec.ofInt 32 1).toNat : Int) = _
 have h2 : (BitVec.ofInt 32 (1 : Int)).toNat = 1 := by decide
 have h3 : ∀ n : Int, IntKind.u32.wrap n = n % 4294967296 := fun n => by simp [IntKind.wrap, IntKind.signed, IntKind.bits]
 rw [BitVec.toNat_and, h1, h2, h3, Nat.and_one_is_mod]
 omega
theorem zde {l : List Int} (h : Dg l) : Go.bits .and .u32 (rd l 0) 1 = ((V l % 2 : Nat) : Int) := by
 have h1 := h.getD 0
 have h2 := zdK h 0
 rw [Nat.pow_zero, Nat.div_one] at h2
 have h3 : rd l 0 = l.getD 0 0 := rdn l 0
 rw [h3]
 obtain ⟨x, hx⟩ := Int.eq_ofNat_of_zero_le h1.1
 rw [hx] at h1 h2 ⊢
 rw [zfK x (by omega)]
 rw [Int.toNat_natCast] at h2
 omega
structure My (s : Bool) (l : List Int) (e : Int) : Prop where
 dy : Dy s l e
 len : l.length ≤ 4096
 lo : -16777216 ≤ e
 hi : e ≤ 16777216
theorem zcc {s : Bool} {l : List Int} {e : Int} (h : My s l e) : zt.f s l e = some true := by
 obtain ⟨hd, hl, h1, h2⟩ := h
 unfold zt.f
 rw [zaS hd.nm.dg (by omega), Option.bind_some, zag.2 ⟨hl, hd.nm⟩, if_neg (by simp)]
 by_cases c : l = []
 ·obtain ⟨h3, h4⟩ := hd.none c
  subst c; subst h3; subst h4
  rfl
 ·have ho := hd.odd c
  rw [if_neg (fun h => c (zai.1 h)), if_pos (zcD c), zde hd.nm.dg, if_pos (by omega)]
  unfold zbq.f
  rw [if_pos h1, decide_eq_true h2]; rfl
theorem zcA (s : Bool) {l : List Int} (e : Int) (h : l.length ≤ 4096) : zaB.f s l e = some (s, l, e) := by
 unfold zaB.f
 rw [if_pos (by omega)]
theorem zc9 {s : Bool} {l : List Int} {e : Int} (h : My s l e) : Ev (fun k => zad.f k s l e) (sv s (V l)).sign := by
 unfold zad.f
 refine zh (zcc h) ?_
 (repeat (first | with_reducible refine ep ?_ | with_reducible refine en ?_))
 refine zf ?_
 simp only [zad.j0]
 by_cases c : l = []
 ·subst c
  (repeat (first | with_reducible refine ep ?_ | with_reducible refine en ?_))
  exact zg (Ev.now _) (by rw [zU, zas]; rfl)
 ·have h1 := h.dy.odd c
  have h0 : V l ≠ 0 := by omega
  refine ze (by simpa using fun e => c e) ?_
  rw [zbb h0]
  by_cases hs : s = true
  ·refine zd hs ?_
   exact zg (Ev.now _) (if_pos hs).symm
  ·refine ze hs ?_
   exact zg (Ev.now _) (if_neg hs).symm
theorem zda {s : Bool} {l : List Int} {e : Int} (h : My s l e) : Ev (fun k => zaP.f k s l e) (top (sv s (V l)) e) := by
 have hb := zbG h.dy.nm.dg
 have hl := h.len
 have e1 := h.lo
 have e2 := h.hi
 unfold zaP.f top
 refine zh (zcc h) ?_
 (repeat (first | with_reducible refine ep ?_ | with_reducible refine en ?_))
 by_cases c : l = []
 ·subst c
  (repeat (first | with_reducible refine ep ?_ | with_reducible refine en ?_))
  exact zg (Ev.now _) (by rw [zU, zas]; rfl)
 ·have h1 := h.dy.odd c
  have h0 : V l ≠ 0 := by omega
  refine ze (fun h => c (zai.1 h)) (Ev.bind (zbW h.dy.nm hl) (zg (Ev.now _) ?_))
  rw [if_neg (fun h => h0 (zbz.1 h)), zaU, zdy (by omega) (by omega) (by omega)]
theorem zgJ {s : Bool} {n : Nat} {e : Int} (h1 : -16777216 ≤ e) (h2 : e + (bl n : Nat) ≤ 16777216) : zcg s n e = ((mk (sv s n) e).1, (mk (sv s n) e).2.1, (mk (sv s n) e).2.2, 0) := by
 unfold zcg
 by_cases h0 : n = 0
 ·rw [if_pos h0, h0, zas]; rfl
 ·have := zcG h0
  rw [if_neg h0, if_neg (by omega), if_neg (by omega)]
theorem zcy {sa sb : Bool} {la lb : List Int} {ea eb : Int} (ha : My sa la ea) (hb : My sb lb eb) : Ev (fun k => zI.f k [(sa, la, ea), (sb, lb, eb)]) true := by
 unfold zI.f
 have e1 : wrap64 (0 + 1) = 1 := by rw [z8 (by omega) (by omega)]; rfl
 have e2 : wrap64 (1 + 1) = 2 := by rw [z8 (by omega) (by omega)]; rfl
 have el : (([(sa, la, ea), (sb, lb, eb)] : List (Bool × List Int × Int)).length : Int) = 2 := rfl
 have r0 : rdT [.b, .is .u32, .i .i64] [(sa, la, ea), (sb, lb, eb)] 0 = ⟨sa, la, ea⟩ := rfl
 have r1 : rdT [.b, .is .u32, .i .i64] [(sa, la, ea), (sb, lb, eb)] 1 = ⟨sb, lb, eb⟩ := rfl
 refine zf ?_
 simp only [zI.l0, el, e1, e2, r0]
 (repeat (first | with_reducible refine ep ?_ | with_reducible refine en ?_))
 refine zh (zcc ha) ?_
 (repeat (first | with_reducible refine ep ?_ | with_reducible refine en ?_))
 refine zf ?_
 simp only [zI.l0, el, e1, e2, r1]
 (repeat (first | with_reducible refine ep ?_ | with_reducible refine en ?_))
 refine zh (zcc hb) ?_
 (repeat (first | with_reducible refine ep ?_ | with_reducible refine en ?_))
 refine zf ?_
 simp only [zI.l0, el, e1, e2]
 (repeat (first | with_reducible refine ep ?_ | with_reducible refine en ?_))
 exact Ev.now _
def ok3 (d : Bool × List Int × Int) : Bool × List Int × Int × Int := (d.1, d.2.1, d.2.2, 0)
theorem zbu {s : Bool} {n : Nat} {e : Int} (h1 : -16777216 ≤ e) (h2 : e + (bl n : Nat) ≤ 16777216) : zcg s n e = ok3 (mk (sv s n) e) := zgJ h1 h2
theorem zd0 (x y : Nat) : bl (x + y) ≤ max (bl x) (bl y) + 1 := by
 refine zaa ?_
 have h1 := zaC x
 have h2 := zaC y
 have h3 : 2 ^ bl x ≤ 2 ^ max (bl x) (bl y) := Nat.pow_le_pow_right (by omega) (by omega)
 have h4 : 2 ^ bl y ≤ 2 ^ max (bl x) (bl y) := Nat.pow_le_pow_right (by omega) (by omega)
 rw [Nat.pow_succ]
 omega
theorem zd7 {n : Nat} (h : bl n ≤ 131072) : zau n = (D n, 0) := by
 have : (D n).length ≤ 4096 := z5 (by omega)
 unfold zau
 rw [if_neg (by omega)]
theorem zgh (p q : Bool) (x y : Nat) {e : Int} (hx : bl x ≤ 131000) (hy : bl y ≤ 131000) (h1 : -16000000 ≤ e) (h2 : e ≤ 16000000) : Ev (fun k => zan.f k p (D x) q (D y) e) (ok3 (mk (sv p x + sv q y) e)) := by
 have lx : (D x).length ≤ 4096 := z5 (by omega)
 have ly : (D y).length ≤ 4096 := z5 (by omega)
 unfold zan.f
 by_cases hs : p = q
 ·subst hs
  have hb := zd0 x y
  have a1 := zgW (zC x) (zC y) lx ly
  rw [V_D, V_D, zd7 (by omega)] at a1
  have m1 := zbn p (zC (x + y)) (z5 (by omega)) e
  rw [V_D, zbu (by omega) (by omega), ← zhH] at m1
  (repeat (first | with_reducible refine ep ?_ | with_reducible refine en ?_))
  refine Ev.bind a1 ?_
  (repeat (first | with_reducible refine ep ?_ | with_reducible refine en ?_))
  refine Ev.bind m1 ?_
  (repeat (first | with_reducible refine ep ?_ | with_reducible refine en ?_))
  exact Ev.now _
 ·refine ze (by simpa using hs) ?_
  have c1 := zcL (zC x) (zC y) lx ly
  rw [V_D, V_D] at c1
  refine Ev.bind c1 ?_
  (repeat (first | with_reducible refine ep ?_ | with_reducible refine en ?_))
  by_cases hc : x < y
  ·have s1 := zeH (zC y) (zC x) ly lx
   rw [V_D, V_D, show zb1 y x = (D (y - x), 0) by unfold zb1; rw [if_neg (by omega)]] at s1
   have hb := zb8 (show y - x ≤ y by omega)
   have m1 := zbn q (zC (y - x)) (z5 (by omega)) e
   rw [V_D, zbu (by omega) (by omega), ← zfg (fun h => hs h.symm) (by omega), Int.add_comm] at m1
   refine zd (zed.2 hc) ?_
   refine zf ?_
   simp only [zan.j2]
   refine Ev.bind s1 ?_
   (repeat (first | with_reducible refine ep ?_ | with_reducible refine en ?_))
   refine Ev.bind m1 ?_
   (repeat (first | with_reducible refine ep ?_ | with_reducible refine en ?_))
   exact Ev.now _
  ·have s1 := zeH (zC x) (zC y) lx ly
   rw [V_D, V_D, show zb1 x y = (D (x - y), 0) by unfold zb1; rw [if_neg (by omega)]] at s1
   have hb := zb8 (show x - y ≤ x by omega)
   have m1 := zbn p (zC (x - y)) (z5 (by omega)) e
   rw [V_D, zbu (by omega) (by omega), ← zfg hs (by omega)] at m1
   refine ze (fun h => hc (zed.1 h)) ?_
   refine zf ?_
   simp only [zan.j2]
   refine Ev.bind s1 ?_
   (repeat (first | with_reducible refine ep ?_ | with_reducible refine en ?_))
   refine Ev.bind m1 ?_
   (repeat (first | with_reducible refine ep ?_ | with_reducible refine en ?_))
   exact Ev.now _
structure Sm (s : Bool) (l : List Int) (e : Int) : Prop where
 dy : Dy s l e
 len : l.length ≤ 1000
 lo : -40000 ≤ e
 hi : e ≤ 40000
theorem Sm.my {s : Bool} {l : List Int} {e : Int} (h : Sm s l e) : My s l e := ⟨h.dy, Nat.le_trans h.len (by omega), by have := h.lo; omega, by have := h.hi; omega⟩
theorem zeL {s : Bool} {l : List Int} {e : Int} (h : Dy s l e) : ok3 (mk (sv s (V l)) e) = (s, l, e, 0) := by rw [zdh h]; rfl
theorem zgi {s : Bool} {l : List Int} {e : Int} (h : Dy s l e) (hl : l.length ≤ 4096) : zbS.f s l e (!s) = some (mk (-(sv s (V l))) e) := by
 unfold zbS.f
 rw [zcA s e hl, Option.bind_some]
 by_cases c : l = []
 ·obtain ⟨h1, h2⟩ := h.none c
  subst c; subst h1; subst h2
  rfl
 ·have h1 := h.odd c
  have h0 : V l ≠ 0 := by omega
  rw [← zff, zci _ h0, zcH h1, Nat.pow_zero, Nat.div_one, h.nm]
  have hp := zcD c
  cases s
  ·simp
   omega
  ·simp
theorem zdF {s : Bool} {l : List Int} {e : Int} (h : Dy s l e) : (mk (-(sv s (V l))) e).2.1 = l ∧ sv (mk (-(sv s (V l))) e).1 (V l) = -(sv s (V l)) ∧ (mk (-(sv s (V l))) e).2.2 = e := by
 by_cases c : l = []
 ·obtain ⟨h1, h2⟩ := h.none c
  subst c; subst h1; subst h2
  exact ⟨rfl, by rw [zU, zas, zas]; rfl, rfl⟩
 ·have h3 := h.odd c
  have h0 : V l ≠ 0 := by omega
  rw [← zff, zci _ h0, zcH h3, Nat.pow_zero, Nat.div_one, h.nm]
  exact ⟨rfl, rfl, by simp⟩
theorem zgf {s : Bool} {l : List Int} {e n : Int} (h : My s l e) (hn : -1000000000000 ≤ n ∧ n ≤ 1000000000000) (h1 : -16777216 ≤ e + n) (h2 : e + n ≤ 16777216) : za4.f s l e n = some (ok3 (mk (sv s (V l)) (e + n))) := by
 have lo := h.lo
 have hi := h.hi
 unfold za4.f
 rw [zcc h, Option.bind_some, if_neg (by simp)]
 by_cases c : l = []
 ·subst c
  rw [if_pos (zai.2 rfl), zU, zas]; rfl
 ·have ho := h.dy.odd c
  have h0 : V l ≠ 0 := by omega
  have e1 : wrap64 (16777216 - e) = 16777216 - e := by unfold wrap64; omega
  have e2 : wrap64 (-16777216 - e) = -16777216 - e := by unfold wrap64; omega
  have e3 : wrap64 (e + n) = e + n := by unfold wrap64; omega
  rw [if_neg (fun h => c (zai.1 h)), e1, e2, if_neg (by omega), if_neg (by omega), zcA s e h.len, Option.bind_some, e3]
  rw [zci _ h0, zcH ho, Nat.pow_zero, Nat.div_one, h.dy.nm]
  simp [ok3]
theorem zee (x y : Nat) : zL x y = ((x : Int) - (y : Int)).sign := by
 rw [zc6]
 unfold zL
 rcases Nat.lt_trichotomy x y with h | h | h
 ·rw [if_pos h, if_pos (show (x : Int) < (y : Int) by omega)]
 ·subst h; simp
 ·rw [if_neg (show ¬ x < y by omega), if_pos h, if_neg (show ¬ (x : Int) < (y : Int) by omega), if_pos (show (y : Int) < (x : Int) by omega)]
theorem zc5 {za ea zb eb m : Int} (h1 : m ≤ ea) (h2 : m ≤ eb) : (al za ea m - al zb eb m).sign = zm za ea zb eb := by
 unfold zm
 have h3 : m ≤ min ea eb := by omega
 rw [← zcr (z := za) (e := ea) (m := min ea eb) (n := m) (by omega) h3, ← zcr (z := zb) (e := eb) (m := min ea eb) (n := m) (by omega) h3]
 generalize al za ea (min ea eb) = x
 generalize al zb eb (min ea eb) = y
 have e : al x (min ea eb) m - al y (min ea eb) m = al (x - y) (min ea eb) m := by unfold al; rw [Int.sub_mul]
 rw [e, zaW]
theorem zcs (n : Nat) (e m : Int) : al (n : Int) e m = ((n * 2 ^ (e - m).toNat : Nat) : Int) := by
 unfold al
 rw [Int.natCast_mul, Int.natCast_pow]; rfl
theorem zdI {s : Bool} {e : Int} (h : Dy s [] e) : s = false ∧ e = 0 := h.none rfl
theorem zgk : Ev (fun k => z3.f k false [] 0 false [] 0) 0 := by
 have hd : Dy false [] 0 := ⟨zaV, fun _ => ⟨rfl, rfl⟩, fun h => absurd rfl h⟩
 have hm : My false [] 0 := ⟨hd, by simp, by omega, by omega⟩
 have ht := zda hm
 have et : top (sv false (V [])) 0 = 0 := rfl
 rw [et] at ht
 have hn := zbW zaV (by simp : ([] : List Int).length ≤ 4096)
 have hs := zcj zaV (by simp : ([] : List Int).length ≤ 4096) 0
 have es : zba (V []) 0 = ([], false, 0) := rfl
 rw [es] at hs
 have hc := zcL zaV zaV (by simp) (by simp)
 have ec : zL (V []) (V []) = 0 := rfl
 rw [ec] at hc
 have w0 : wrap64 (((bl (V []) : Nat) : Int) - ((bl (V []) : Nat) : Int)) = 0 := by rw [Int.sub_self, z8 (by omega) (by omega)]
 have w1 : wrap64 (-0) = 0 := by rw [Int.neg_zero, z8 (by omega) (by omega)]
 unfold z3.f
 refine Ev.bind ht ?_
 (repeat (first | with_reducible refine ep ?_ | with_reducible refine en ?_))
 refine Ev.bind ht ?_
 (repeat (first | with_reducible refine ep ?_ | with_reducible refine en ?_))
 refine Ev.bind ht ?_
 (repeat (first | with_reducible refine ep ?_ | with_reducible refine en ?_))
 refine Ev.bind ht ?_
 (repeat (first | with_reducible refine ep ?_ | with_reducible refine en ?_))
 refine Ev.bind hn ?_
 (repeat (first | with_reducible refine ep ?_ | with_reducible refine en ?_))
 refine Ev.bind hn ?_
 (repeat (first | with_reducible refine ep ?_ | with_reducible refine en ?_))
 rw [w0, w1]
 (repeat (first | with_reducible refine ep ?_ | with_reducible refine en ?_))
 refine Ev.bind hs ?_
 (repeat (first | with_reducible refine ep ?_ | with_reducible refine en ?_))
 refine zf ?_
 simp only [z3.j1]
 refine Ev.bind hc ?_
 (repeat (first | with_reducible refine ep ?_ | with_reducible refine en ?_))
 exact Ev.now _
theorem zc1 (z e m : Int) : al (-z) e m = -(al z e m) := by unfold al; rw [Int.neg_mul]
theorem zfY (x ea y eb : Int) : zm (-x) ea (-y) eb = -(zm x ea y eb) := by
 unfold zm
 rw [zc1, zc1, ← Int.sign_neg]
 congr 1
 omega
theorem zf0 (s : Bool) (x y : Nat) (ea eb : Int) (hx : x ≠ 0) : (sv s x).sign * zm (x : Int) ea (y : Int) eb = zm (sv s x) ea (sv s y) eb := by
 rw [zbb hx]
 cases s
 ·simp [sv]
 ·simp only [sv, if_true]
  rw [zfY]
  omega
theorem zfZ (za ea zb eb : Int) : zm za ea zb eb = -1 ∨ zm za ea zb eb = 0 ∨ zm za ea zb eb = 1 := by
 unfold zm
 rcases zaJ (al za ea (min ea eb) - al zb eb (min ea eb)) with ⟨_, h⟩ | ⟨_, h⟩ | ⟨_, h⟩
 ·exact .inl h
 ·exact .inr (.inl h)
 ·exact .inr (.inr h)
theorem zbI (n : Nat) (h : n < 18446744073709551616) : (BitVec.ofInt 64 (n : Int)).toNat = n := by
 rw [BitVec.ofInt_natCast, BitVec.toNat_ofNat]; exact Nat.mod_eq_of_lt (by omega)
theorem zdW (a b : Nat) (ha : a < 18446744073709551616) (hb : b < 18446744073709551616) : Go.bits .and .u64 (a : Int) (b : Int) = ((a &&& b : Nat) : Int) := by
 show IntKind.u64.wrap ((BitVec.ofInt 64 (a : Int) &&& BitVec.ofInt 64 (b : Int)).toNat : Int) = _
 have hx : a &&& b < 2 ^ 64 := Nat.and_lt_two_pow _ (by omega)
 rw [BitVec.toNat_and, zbI a ha, zbI b hb, zay]
 omega
theorem zcl (a b : Nat) (ha : a < 18446744073709551616) (hb : b < 18446744073709551616) : Go.bits .or .u64 (a : Int) (b : Int) = ((a ||| b : Nat) : Int) := by
 show IntKind.u64.wrap ((BitVec.ofInt 64 (a : Int) ||| BitVec.ofInt 64 (b : Int)).toNat : Int) = _
 have hx : a ||| b < 2 ^ 64 := Nat.or_lt_two_pow (by omega) (by omega)
 rw [BitVec.toNat_or, zbI a ha, zbI b hb, zay]
 omega
theorem zfH (a b : Nat) (ha : a < 18446744073709551616) (hb : b < 18446744073709551616) : Go.bits .andNot .u64 (a : Int) (b : Int) = ((a &&& (18446744073709551616 - 1 - b) : Nat) : Int) := by
 show IntKind.u64.wrap ((BitVec.ofInt 64 (a : Int) &&& ~~~(BitVec.ofInt 64 (b : Int))).toNat : Int) = _
 have hx : a &&& (18446744073709551616 - 1 - b) < 2 ^ 64 := Nat.and_lt_two_pow _ (by omega)
 rw [BitVec.toNat_and, BitVec.toNat_not, zbI a ha, zbI b hb, zay]
 have e : 2 ^ 64 - 1 - b = 18446744073709551616 - 1 - b := by omega
 rw [e]
 omega
theorem zfJ (a k : Nat) (ha : a < 18446744073709551616) (hk : k ≤ 63) : Go.bits .and .u64 (a : Int) ((2 ^ k - 1 : Nat) : Int) = ((a % 2 ^ k : Nat) : Int) := by
 have h1 : 2 ^ k ≤ 2 ^ 63 := Nat.pow_le_pow_right (by omega) hk
 rw [zdW a _ ha (by omega), Nat.and_two_pow_sub_one_eq_mod]
theorem zfI (w k : Nat) (hk : k ≤ 63) (hw : w < 2 ^ (k + 1)) : Go.bits .andNot .u64 (w : Int) ((2 ^ k : Nat) : Int) = ((w % 2 ^ k : Nat) : Int) := by
 have h1 : 2 ^ k ≤ 2 ^ 63 := Nat.pow_le_pow_right (by omega) hk
 have h2 : 2 ^ (k + 1) ≤ 2 ^ 64 := Nat.pow_le_pow_right (by omega) (by omega)
 rw [zfH w _ (by omega) (by omega)]
 congr 1
 apply Nat.eq_of_testBit_eq
 intro i
 have e : 18446744073709551616 - 1 - 2 ^ k = 2 ^ 64 - (2 ^ k + 1) := by omega
 rw [Nat.testBit_and, Nat.testBit_mod_two_pow, e, Nat.testBit_two_pow_sub_succ (by omega), Nat.testBit_two_pow]
 rcases Nat.lt_trichotomy i k with h | h | h
 ·have h3 : i < 64 := by omega
  have h4 : ¬ k = i := by omega
  simp [h, h3, h4]
 ·subst h; simp
 ·have h3 : w.testBit i = false := Nat.testBit_lt_two_pow (Nat.lt_of_lt_of_le hw (Nat.pow_le_pow_right (by omega) (by omega)))
  have h4 : ¬ i < k := by omega
  simp [h3, h4]
theorem zfL (w k : Nat) (hk : k ≤ 63) (hw : w < 2 ^ (k + 1)) : Go.bits .and .u64 (w : Int) ((2 ^ k : Nat) : Int) = ((w / 2 ^ k * 2 ^ k : Nat) : Int) := by
 have h1 : 2 ^ k ≤ 2 ^ 63 := Nat.pow_le_pow_right (by omega) hk
 have h2 : 2 ^ (k + 1) ≤ 2 ^ 64 := Nat.pow_le_pow_right (by omega) (by omega)
 rw [zdW w _ (by omega) (by omega)]
 congr 1
 apply Nat.eq_of_testBit_eq
 intro i
 rw [Nat.testBit_and, Nat.testBit_two_pow, Nat.testBit_mul_two_pow, Nat.testBit_div_two_pow]
 rcases Nat.lt_trichotomy i k with h | h | h
 ·have h3 : ¬ k = i := by omega
  have h4 : ¬ k ≤ i := by omega
  simp [h3, h4]
 ·subst h; simp
 ·have h3 : w.testBit i = false := Nat.testBit_lt_two_pow (Nat.lt_of_lt_of_le hw (Nat.pow_le_pow_right (by omega) (by omega)))
  have h4 : ¬ k = i := by omega
  have h5 : i - k + k = i := by omega
  simp [h3, h4, h5]
theorem zg9 (a b k : Nat) (hb : b < 2 ^ k) (h : a * 2 ^ k + b < 18446744073709551616) : Go.bits .or .u64 ((a * 2 ^ k : Nat) : Int) (b : Int) = ((a * 2 ^ k + b : Nat) : Int) := by
 rw [zcl _ _ (by omega) (by omega)]
 congr 1
 rw [Nat.mul_comm]
 exact (Nat.two_pow_add_eq_or_of_lt hb a).symm
theorem zg7 (a b : Nat) (ha : a < 18446744073709551616) (hb : b < 18446744073709551616) : Go.bits .or .u64 (a : Int) (b : Int) = Go.bits .or .u64 (b : Int) (a : Int) := by
 rw [zcl a b ha hb, zcl b a hb ha, Nat.or_comm]
def isF (f : Int) : Prop := f = 1 ∨ f = 2
def fb (f : Int) : Nat := if f = 1 then 23 else 52
def mo (f : Int) : Nat := if f = 1 then 255 else 2047
def sk (f : Int) : Nat := if f = 1 then 31 else 63
def sg (f : Int) : Nat := if f = 1 then 2147483648 else 9223372036854775808
theorem zhz {f : Int} (h : isF f) : zco.f f = some ((fb f : Int), (mo f : Int), (sg f : Int), true) := by
 rcases h with rfl | rfl <;> rfl
theorem zgT {f : Int} (h : isF f) : Go.bits .or .u64 (sg f : Int) (IntKind.u64.wrap ((sg f : Int) - 1)) = ((2 * sg f - 1 : Nat) : Int) := by
 rcases h with rfl | rfl
 ·have e : IntKind.u64.wrap (((sg 1 : Nat) : Int) - 1) = ((2147483647 : Nat) : Int) := by rw [zay]; rfl
  rw [e, zcl _ _ (by decide) (by decide)]; rfl
 ·have e : IntKind.u64.wrap (((sg 2 : Nat) : Int) - 1) = ((9223372036854775807 : Nat) : Int) := by rw [zay]; rfl
  rw [e, zcl _ _ (by decide) (by decide)]; rfl
theorem zcn {f : Int} (h : isF f) : 0 < sg f ∧ 2 * sg f ≤ 18446744073709551616 := by rcases h with rfl | rfl <;> decide
theorem ze6 {f : Int} (h : isF f) : sg f = 2 ^ sk f := by rcases h with rfl | rfl <;> decide
theorem ze9 {f : Int} (h : isF f) : sk f ≤ 63 := by rcases h with rfl | rfl <;> decide
def zax (f : Int) (w : Nat) : Int := if w < 2 * sg f then 0 else 6
theorem zdA {f : Int} (h : isF f) (w : Nat) : Ev (fun k => zW.f k f [(w : Int)]) ((fb f : Int), (mo f : Int), (sg f : Int), zax f w) := by
 have hp := zcn h
 unfold zW.f zax
 have e1 : wrap64 (0 + 1) = 1 := by rw [z8 (by omega) (by omega)]; rfl
 have el : (([(w : Int)] : List Int).length : Int) = 1 := rfl
 have er : rd [(w : Int)] 0 = (w : Int) := rfl
 refine zh (zhz h) ?_
 (repeat (first | with_reducible refine ep ?_ | with_reducible refine en ?_))
 refine zf ?_
 simp only [zW.l0, el, e1, er, zgT h]
 (repeat (first | with_reducible refine ep ?_ | with_reducible refine en ?_))
 by_cases c : w < 2 * sg f
 ·rw [if_pos c]
  (repeat (first | with_reducible refine ep ?_ | with_reducible refine en ?_))
  refine zf ?_
  simp only [zW.l0, el]
  (repeat (first | with_reducible refine ep ?_ | with_reducible refine en ?_))
  exact Ev.now _
 ·rw [if_neg c]
  (repeat (first | with_reducible refine ep ?_ | with_reducible refine en ?_))
  exact Ev.now _
theorem zhC {f : Int} (h : isF f) : shl .u64 ((mo f : Nat) : Int) ((fb f : Nat) : Int) = ((mo f * 2 ^ fb f : Nat) : Int) := by
 rcases h with rfl | rfl <;> decide
theorem zgw {f : Int} (h : isF f) : zbD.f (fb f : Int) (mo f : Int) (sg f : Int) = some ((mo f * 2 ^ fb f : Nat) : Int) := by
 unfold zbD.f
 have hm : mo f < 10000 := by rcases h with rfl | rfl <;> decide
 rw [if_pos (by omega), u64 (by omega) (by omega), zhC h]
def cls (f : Int) (w : Nat) : Int :=
 if w % sg f = 0 then 1 else if w % sg f < 2 ^ fb f then 2 else if w % sg f < mo f * 2 ^ fb f then 3 else if w % sg f = mo f * 2 ^ fb f then 4 else 5
theorem ze8 {f : Int} (h : isF f) {w : Nat} (hw : w < 2 * sg f) : Go.bits .andNot .u64 (w : Int) (sg f : Int) = ((w % sg f : Nat) : Int) := by
 rw [ze6 h] at hw ⊢
 exact zfI w (sk f) (ze9 h) (by rw [Nat.pow_succ, Nat.mul_comm]; exact hw)
theorem zck {f : Int} (h : isF f) : shl .u64 1 ((fb f : Nat) : Int) = ((2 ^ fb f : Nat) : Int) := by rcases h with rfl | rfl <;> decide
theorem zd8 {f : Int} (h : isF f) {w : Nat} (hw : w < 2 * sg f) : zbe.f (fb f : Int) (mo f : Int) (sg f : Int) (w : Int) = some (cls f w) := by
 unfold zbe.f cls
 rw [ze8 h hw, zck h]
 generalize w % sg f = z
 by_cases c1 : z = 0
 ·rw [if_pos (by omega), if_pos c1]
 rw [if_neg (by omega), if_neg c1, if_pos (by omega)]
 by_cases c2 : z < 2 ^ fb f
 ·rw [if_pos (by omega), if_pos c2]
 rw [if_neg (by omega), if_neg c2, zgw h, Option.bind_some]
 by_cases c3 : z < mo f * 2 ^ fb f
 ·rw [if_pos (by omega), if_pos c3]
 rw [if_neg (by omega), if_neg c3, Option.bind_some]
 by_cases c4 : z = mo f * 2 ^ fb f
 ·rw [if_pos (by omega), if_pos c4]
 ·rw [if_neg (by omega), if_neg c4]
theorem zfv {f : Int} (h : isF f) {w : Nat} (hw : w < 2 * sg f) : Ev (fun k => zbB.f k f (w : Int)) (cls f w, 0) := by
 have ho := zdA h w
 unfold zax at ho
 rw [if_pos hw] at ho
 unfold zbB.f
 refine Ev.bind ho ?_
 (repeat (first | with_reducible refine ep ?_ | with_reducible refine en ?_))
 refine zh (zd8 h hw) ?_
 (repeat (first | with_reducible refine ep ?_ | with_reducible refine en ?_))
 exact Ev.now _
def zaE (f : Int) (w : Nat) : Bool := decide (sg f ≤ w)
def zz (f : Int) (w : Nat) : Nat := w % sg f / 2 ^ fb f
def zA (f : Int) (w : Nat) : Nat := w % sg f % 2 ^ fb f
theorem zcC {f : Int} (h : isF f) : fb f ≤ 52 := by rcases h with rfl | rfl <;> decide
theorem zds {f : Int} (h : isF f) : sg f = 2 ^ fb f * (mo f + 1) := by rcases h with rfl | rfl <;> decide
theorem pfb {f : Int} (h : isF f) : 2 ^ fb f ≤ 4503599627370496 := by rcases h with rfl | rfl <;> decide
theorem zbw {f : Int} (h : isF f) : mo f ≤ 2047 := by rcases h with rfl | rfl <;> decide
theorem zhD {f : Int} (h : isF f) {w : Nat} (hw : w < 2 * sg f) : zb5.f (fb f : Int) (mo f : Int) (sg f : Int) (w : Int) = some (zaE f w, (zz f w : Int), (zA f w : Int)) := by
 have hp := zcn h
 have hk := ze9 h
 have h52 := zcC h
 have hpw := pfb h
 have hpp := zp (fb f)
 unfold zb5.f
 rw [ze8 h hw, zck h]
 have h1 : Go.bits .and .u64 (w : Int) (sg f : Int) = ((w / sg f * sg f : Nat) : Int) := by
  rw [ze6 h] at hw ⊢
  exact zfL w (sk f) hk (by rw [Nat.pow_succ, Nat.mul_comm]; exact hw)
 have hz : w % sg f < sg f := Nat.mod_lt _ hp.1
 have h2 : IntKind.u64.wrap (((2 ^ fb f : Nat) : Int) - 1) = ((2 ^ fb f - 1 : Nat) : Int) := by rw [zay]; omega
 have h3 := zfJ (w % sg f) (fb f) (by omega) (by omega)
 have h4 : shr .u64 ((w % sg f : Nat) : Int) ((fb f : Nat) : Int) = ((w % sg f / 2 ^ fb f : Nat) : Int) := zby _ _ (by show fb f ≤ 64; omega)
 have h5 : wrap64 ((w % sg f / 2 ^ fb f : Nat) : Int) = ((w % sg f / 2 ^ fb f : Nat) : Int) := by
  have hq : w % sg f / 2 ^ fb f < mo f + 1 := Nat.div_lt_of_lt_mul (by rw [← zds h]; exact hz)
  have hm := zbw h
  clear h1 h2 h3 h4
  generalize w % sg f / 2 ^ fb f = q at hq ⊢
  exact z8 (by omega) (by omega)
 rw [h1, h2, h3, h4, h5]
 have h6 : (decide (¬ (((w / sg f * sg f : Nat) : Int) = 0))) = zaE f w := by
  unfold zaE
  by_cases c : sg f ≤ w
  ·have : w / sg f = 1 := Nat.div_eq_of_lt_le (by omega) (by omega)
   rw [this, decide_eq_true c]
   exact decide_eq_true (by omega)
  ·rw [Nat.div_eq_of_lt (by omega), decide_eq_false c]
   simp
 rw [h6, if_pos (by omega)]
 rfl
def lo (f : Int) : Int := if f = 1 then -149 else -1074
theorem zez {f : Int} (h : isF f) : zb4.f (fb f : Int) (mo f : Int) (sg f : Int) = some (lo f) := by
 unfold zb4.f
 have e : wrap64 (Int.tdiv ((mo f : Nat) : Int) 2) = ((mo f / 2 : Nat) : Int) := by
  have := zbw h
  exact z8 (by show (0 : Int) ≤ ((mo f / 2 : Nat) : Int); omega) (by show ((mo f / 2 : Nat) : Int) < _; omega)
 have hm := zbw h
 have hb := zcC h
 rw [e]
 have e2 : wrap64 (1 - ((mo f / 2 : Nat) : Int)) = 1 - ((mo f / 2 : Nat) : Int) := by unfold wrap64; omega
 rw [e2]
 have e3 : wrap64 (1 - ((mo f / 2 : Nat) : Int) - ((fb f : Nat) : Int)) = 1 - ((mo f / 2 : Nat) : Int) - ((fb f : Nat) : Int) := by unfold wrap64; omega
 rw [e3]
 rcases h with rfl | rfl <;> rfl
def zB (f : Int) (w : Nat) : Nat := if zz f w = 0 then zA f w else 2 ^ fb f + zA f w
def wex (f : Int) (w : Nat) : Int := (if zz f w = 0 then 0 else (zz f w : Int) - 1) + lo f
theorem zgn {f : Int} (h : isF f) {w : Nat} (hw : w < 2 * sg f) : Ev (fun k => zb3.f k f (w : Int)) ((fb f : Int), (mo f : Int), (sg f : Int), if cls f w ≥ 4 then 7 else 0) := by
 have ho := zdA h w
 unfold zax at ho
 rw [if_pos hw] at ho
 unfold zb3.f
 refine Ev.bind ho ?_
 (repeat (first | with_reducible refine ep ?_ | with_reducible refine en ?_))
 refine zh (zd8 h hw) ?_
 (repeat (first | with_reducible refine ep ?_ | with_reducible refine en ?_))
 by_cases c : cls f w ≥ 4
 ·refine zd c ?_
  exact zg (Ev.now _) (by rw [if_pos c])
 ·refine ze c ?_
  exact zg (Ev.now _) (by rw [if_neg c])
theorem mx1 (n : Nat) : (wrap64 ((mx (n : Int) 1) - 1) = if n = 0 then 0 else (n : Int) - 1) ∨ 4611686018427387904 ≤ n := by
 by_cases hb : n < 4611686018427387904
 ·left
  have e : mx (n : Int) 1 = ((max n 1 : Nat) : Int) := zgU n 1
  rw [e, z8 (by omega) (by omega)]
  split <;> omega
 ·right; omega
theorem zfw {f : Int} (h : isF f) {w : Nat} (hw : w < 2 * sg f) (hc : cls f w < 4) : Ev (fun k => zat.f k f (w : Int)) (ok3 (mk (sv (zaE f w) (zB f w)) (wex f w))) := by
 have hf := zgn h hw
 rw [if_neg (by omega)] at hf
 have hp := zcn h
 have hz : w % sg f < sg f := Nat.mod_lt _ hp.1
 have he : zz f w < mo f + 1 := Nat.div_lt_of_lt_mul (by rw [← zds h]; exact hz)
 have hm := zbw h
 have hfr : zA f w < 2 ^ fb f := Nat.mod_lt _ (zp _)
 have hpw := pfb h
 have h52 := zcC h
 have hlo : -1074 ≤ lo f ∧ lo f ≤ -149 := by rcases h with rfl | rfl <;> decide
 have hmx := (mx1 (zz f w)).resolve_right (by omega)
 have hbl : ∀ m : Nat, m < 18446744073709551616 → bl m ≤ 64 := fun m hm => zaa (by omega)
 unfold zat.f
 refine Ev.bind hf ?_
 (repeat (first | with_reducible refine ep ?_ | with_reducible refine en ?_))
 refine zh (zhD h hw) ?_
 (repeat (first | with_reducible refine ep ?_ | with_reducible refine en ?_))
 have hex : wrap64 (wrap64 ((mx (zz f w : Int) 1) - 1) + lo f) = wex f w := by
  rw [hmx]
  unfold wex wrap64
  split <;> omega
 have hwx : -1074 ≤ wex f w ∧ wex f w ≤ 3000 := by unfold wex; split <;> omega
 by_cases c : zz f w = 0
 ·have hm0 : zB f w = zA f w := by unfold zB; rw [if_pos c]
  have o1 := zdj (n := (zA f w : Int)) (by omega) (by omega)
  rw [Int.toNat_natCast] at o1
  have hb := hbl (zA f w) (by omega)
  have m1 := zbn (zaE f w) (zC (zA f w)) (z5 (by omega)) (wex f w)
  rw [V_D, zbu (by omega) (by omega)] at m1
  dsimp only
  (repeat (first | with_reducible refine ep ?_ | with_reducible refine en ?_))
  refine zf ?_; simp only [zat.j1]
  refine Ev.bind (o1) ?_; try dsimp only
  refine zh (zez h) ?_; try dsimp only
  rw [hex, hm0]
  refine Ev.bind m1 ?_
  (repeat (first | with_reducible refine ep ?_ | with_reducible refine en ?_))
  exact Ev.now _
 ·have hm0 : zB f w = 1 * 2 ^ fb f + zA f w := by unfold zB; rw [if_neg c, Nat.one_mul]
  have eo : Go.bits .or .u64 (zA f w : Int) (shl .u64 1 ((fb f : Nat) : Int)) = ((zB f w : Nat) : Int) := by
   rw [zck h, zg7 _ _ (by omega) (by omega), hm0]
   have := zg9 1 (zA f w) (fb f) hfr (by omega)
   rw [Nat.one_mul] at this
   rw [this, Nat.one_mul]
  have hlt : zB f w < 18446744073709551616 := by omega
  have o1 := zdj (n := (zB f w : Int)) (by omega) (by omega)
  rw [Int.toNat_natCast] at o1
  have hb := hbl (zB f w) hlt
  have m1 := zbn (zaE f w) (zC (zB f w)) (z5 (by omega)) (wex f w)
  rw [V_D, zbu (by omega) (by omega)] at m1
  dsimp only
  (repeat (first | with_reducible refine ep ?_ | with_reducible refine en ?_))
  refine zf ?_; simp only [zat.j1]
  rw [eo]
  refine Ev.bind (o1) ?_; try dsimp only
  refine zh (zez h) ?_; try dsimp only
  rw [hex]
  refine Ev.bind m1 ?_
  (repeat (first | with_reducible refine ep ?_ | with_reducible refine en ?_))
  exact Ev.now _
theorem zey {f : Int} (h : isF f) : -1074 ≤ lo f ∧ lo f ≤ -149 := by rcases h with rfl | rfl <;> decide
theorem zgQ {f : Int} (h : isF f) : 255 ≤ mo f := by rcases h with rfl | rfl <;> decide
theorem zhX {a b : Int} (h1 : -100000000000 ≤ a) (h2 : a ≤ 100000000000) (h3 : -100000000000 ≤ b) (h4 : b ≤ 100000000000) : wrap64 (a + b) = a + b := by unfold wrap64; omega
instance (f : Int) : Decidable (isF f) := inferInstanceAs (Decidable (f = 1 ∨ f = 2))
theorem zdn (f : Int) : za1.f f = some (decide (isF f)) := by
 unfold za1.f isF
 by_cases h : f = 1
 ·rw [if_pos h]; simp [h]
 ·rw [if_neg h]; simp [h]
def isM (m : Int) : Prop := 1 ≤ m ∧ m ≤ 5
instance (m : Int) : Decidable (isM m) := inferInstanceAs (Decidable (1 ≤ m ∧ m ≤ 5))
theorem zeR {f : Int} (h : isF f) {w : Nat} (hw : w < 18446744073709551616) : zbk.f f (w : Int) = some (zax f w) := by
 unfold zbk.f zax
 rw [zdn, decide_eq_true h, Option.bind_some, if_neg (by simp)]
 rcases h with rfl | rfl
 ·rw [if_pos rfl]
  by_cases c : w < 2 * sg 1
  ·rw [if_neg (by simp [sg] at c; omega), if_pos c]
  ·rw [if_pos (by simp [sg] at c; omega), if_neg c]
 ·rw [if_neg (by omega), if_pos (by simp [sg]; omega)]
theorem zhh {f : Int} (h : isF f) : zbQ.f f = some (sg f : Int) := by rcases h with rfl | rfl <;> rfl
theorem zeQ {f : Int} (h : isF f) : za0.f f = some (fb f : Int) := by rcases h with rfl | rfl <;> rfl
theorem zhf {f : Int} (h : isF f) : zbP.f f = some (mo f : Int) := by rcases h with rfl | rfl <;> rfl
theorem zeS {f : Int} (h : isF f) : zbO.f f = some (lo f) := by rcases h with rfl | rfl <;> rfl
theorem zcP {f : Int} (h : isF f) (w : Nat) : zz f w ≤ mo f := by
 have hz : w % sg f < sg f := Nat.mod_lt _ (zcn h).1
 have : zz f w < mo f + 1 := Nat.div_lt_of_lt_mul (by rw [← zds h]; exact hz)
 omega
theorem zdz (f : Int) (w : Nat) : zA f w < 2 ^ fb f := Nat.mod_lt _ (zp _)
theorem zhW (f : Int) (w : Nat) : w % sg f = zz f w * 2 ^ fb f + zA f w := by
 unfold zz zA
 have := Nat.div_add_mod (w % sg f) (2 ^ fb f)
 rw [Nat.mul_comm] at this
 exact this.symm
theorem zeU {f : Int} (h : isF f) (w : Nat) : za2.f f (w : Int) = some (zaE f w, (zz f w : Int), (zA f w : Int)) := by
 have hp := zcn h
 have hpp := zp (fb f)
 have hm := zbw h
 have hx := zcP h w
 have h52 := zcC h
 unfold za2.f
 rw [zhh h, Option.bind_some, Option.bind_some, if_neg (by omega), zeQ h, Option.bind_some, if_pos (by omega), zck h, if_neg (by omega), Option.bind_some, if_pos (by omega), zfi, zfi, zby _ _ (by show fb f ≤ 64; omega)]
 have e : wrap64 ((w % sg f / 2 ^ fb f : Nat) : Int) = (zz f w : Int) := by
  show wrap64 ((zz f w : Nat) : Int) = _
  exact z8 (by omega) (by omega)
 rw [e]
 have e2 : decide ((w : Int) ≥ (sg f : Int)) = zaE f w := decide_eq_decide.2 (by omega)
 rw [e2]
 rfl
theorem zd9 {f : Int} (h : isF f) (w : Nat) : cls f w = if zz f w = 0 then (if zA f w = 0 then 1 else 2) else if zz f w < mo f then 3 else if zA f w = 0 then 4 else 5 := by
 have h1 := zhW f w
 have h2 := zdz f w
 have h3 := zcP h w
 have hpp := zp (fb f)
 have hm := zgQ h
 unfold cls
 rw [h1]
 generalize zA f w = r at *
 generalize zz f w = q at *
 generalize 2 ^ fb f = p at *
 by_cases c : q = 0
 ·subst c
  simp only [Nat.zero_mul, Nat.zero_add, if_true]
  by_cases c2 : r = 0
  ·simp [c2]
  ·rw [if_neg c2, if_pos h2, if_neg c2]
 ·have h4 : p ≤ q * p := Nat.le_mul_of_pos_left _ (by omega)
  rw [if_neg (by omega), if_neg (by omega), if_neg c]
  by_cases c2 : q < mo f
  ·have h5 : (q + 1) * p ≤ mo f * p := Nat.mul_le_mul_right _ c2
   rw [Nat.add_mul, Nat.one_mul] at h5
   rw [if_pos (by omega), if_pos c2]
  ·have h5 : q = mo f := by omega
   rw [h5, if_neg (by omega), if_neg (Nat.lt_irrefl _)]
   by_cases c3 : r = 0
   ·rw [if_pos (by omega), if_pos c3]
   ·rw [if_neg (by omega), if_neg c3]
theorem zhe {f : Int} (h : isF f) (w : Nat) : zbN.f f (w : Int) = some (cls f w) := by
 unfold zbN.f
 rw [zeU h, Option.bind_some, zd9 h, zhf h]
 generalize zA f w = r
 generalize zz f w = q
 generalize mo f = m
 simp only [Option.bind_some]
 by_cases c : q = 0
 ·rw [if_pos (by omega), if_pos c]
  by_cases c2 : r = 0
  ·rw [if_pos (by omega), if_pos c2]
  ·rw [if_neg (by omega), if_pos (by omega), if_neg c2]
 ·rw [if_neg (by omega), if_neg (by omega), if_neg c]
  by_cases c2 : q < m
  ·rw [if_pos (by omega), if_pos c2]
  ·rw [if_neg (by omega), if_neg c2]
   by_cases c3 : r = 0
   ·rw [if_pos (by omega), if_pos c3]
   ·rw [if_neg (by omega), if_neg c3]
theorem zft {f : Int} (h : isF f) (w : Nat) : zB f w < 18446744073709551616 := by
 have := zdz f w
 have := pfb h
 unfold zB; split <;> omega
theorem zfs {f : Int} (h : isF f) (w : Nat) : -1074 ≤ wex f w ∧ wex f w ≤ 3000 := by
 have := zcP h w
 have := zbw h
 have := zey h
 unfold wex; split <;> omega
theorem zhi {f : Int} (h : isF f) (w : Nat) : Ev (fun k => za3.f k f (w : Int)) (mk (sv (zaE f w) (zB f w)) (wex f w)) := by
 have hlt := zft h w
 have hwb := zfs h w
 have hfr := zdz f w
 have hpw := pfb h
 have hx := zcP h w
 have hm := zbw h
 have hlo := zey h
 have o1 := zho (n := (zB f w : Int)) (by omega) (by omega)
 rw [Int.toNat_natCast] at o1
 have f1 := zeY (zaE f w) (zC (zB f w)) (by
  have : (D (zB f w)).length ≤ 2 := zcS (by omega)
  omega) (e := wex f w) (by omega) (by omega)
 rw [V_D] at f1
 unfold za3.f
 refine zh (zeU h w) ?_; try dsimp only
 by_cases c : zz f w = 0
 ·have e1 : zB f w = zA f w := by unfold zB; rw [if_pos c]
  have e2 : wex f w = lo f := by unfold wex; rw [if_pos c]; omega
  rw [e1] at o1
  rw [e1, e2] at f1
  refine zd (by omega) ?_
  refine Ev.bind (o1) ?_; try dsimp only
  refine zh (zeS h) ?_; try dsimp only
  refine Ev.bind (f1) ?_; try dsimp only
  rw [e1, e2]
  exact Ev.now _
 ·have e1 : zB f w = 2 ^ fb f + zA f w := by unfold zB; rw [if_neg c]
  have e2 : wex f w = (zz f w : Int) - 1 + lo f := by unfold wex; rw [if_neg c]
  have e3 : IntKind.u64.wrap (((2 ^ fb f : Nat) : Int) + (zA f w : Int)) = (zB f w : Int) := by rw [e1, ← Int.natCast_add]; exact u64 (by omega) (by omega)
  have e4 : wrap64 (wrap64 ((zz f w : Int) - 1) + lo f) = wex f w := by rw [e2]; unfold wrap64; omega
  refine ze (by omega) ?_
  refine zh (zeQ h) ?_; try dsimp only
  rw [zck h, e3]
  refine zd (by omega) ?_
  refine Ev.bind (o1) ?_; try dsimp only
  refine zh (zeS h) ?_; try dsimp only
  rw [e4]
  refine Ev.bind (f1) ?_; try dsimp only
  exact Ev.now _
def mz (z e : Int) : Int := sv (mk z e).1 (V (mk z e).2.1)
def me (z e : Int) : Int := (mk z e).2.2
theorem za8 (e : Int) : mz 0 e = 0 := rfl
theorem zhI (z : Int) : sv (decide (z < 0)) z.natAbs = z := by
 unfold sv
 by_cases h : z < 0
 ·rw [decide_eq_true h, if_pos rfl]; omega
 ·rw [decide_eq_false h, if_neg (by simp)]; omega
theorem zao {z : Int} (h : z ≠ 0) (e : Int) : ∃ j : Nat, z = mz z e * 2 ^ j ∧ me z e = e + (j : Int) ∧ mz z e ≠ 0 ∧ bl (mz z e).natAbs + j = bl z.natAbs := by
 have hn : z.natAbs ≠ 0 := by omega
 have hw := zcG hn
 obtain ⟨q, hq⟩ := zbt hn
 have hd : z.natAbs / 2 ^ lw z.natAbs = 2 * q + 1 := by
  have : z.natAbs / 2 ^ lw z.natAbs = 2 ^ lw z.natAbs * (2 * q + 1) / 2 ^ lw z.natAbs := by rw [← hq]
  rw [this, Nat.mul_div_cancel_left _ (zp _)]
 have hm : mz z e = sv (decide (z < 0)) (z.natAbs / 2 ^ lw z.natAbs) := by
  unfold mz mk; rw [if_neg h]; show sv _ (V (D _)) = _; rw [V_D]
 have he : me z e = e + (lw z.natAbs : Nat) := by unfold me mk; rw [if_neg h]
 refine ⟨lw z.natAbs, ?_, he, ?_, ?_⟩
 ·rw [hm, hd]
  have h1 : sv (decide (z < 0)) (2 * q + 1) * 2 ^ lw z.natAbs = sv (decide (z < 0)) ((2 * q + 1) * 2 ^ lw z.natAbs) := by
   unfold sv
   split
   ·rw [Int.neg_mul, Int.natCast_mul, Int.natCast_pow]; rfl
   ·rw [Int.natCast_mul, Int.natCast_pow]; rfl
  rw [h1, Nat.mul_comm, ← hq, zhI]
 ·rw [hm, hd]; intro h2; have := zbz.1 h2; omega
 ·rw [hm, zaU, zd2]; omega
theorem zgO (z e : Int) : mk (mz z e) (me z e) = mk z e := zdh (zbg z e)
theorem zcI (z e : Int) : (mk z e).2.1.length ≤ (bl z.natAbs + 31) / 32 := by
 rw [zgK]
 refine z5 ?_
 rw [zd2]; omega
theorem zaR (z e : Int) : me z e = 0 ∧ z = 0 ∨ e ≤ me z e ∧ me z e ≤ e + (bl z.natAbs : Nat) := by
 by_cases h : z = 0
 ·exact .inl ⟨by rw [h]; rfl, h⟩
 ·obtain ⟨j, _, h2, _, h4⟩ := zao h e
  exact .inr (by omega)
theorem zdV {z : Int} (h : z ≠ 0) {e m : Int} (hm : m ≤ e) : al (mz z e) (me z e) m = al z e m := by
 obtain ⟨j, h1, h2, _, _⟩ := zao h e
 rw [h2]
 have h3 : al z e m = al (mz z e * 2 ^ j) e m := by rw [← h1]
 rw [h3]
 unfold al
 rw [Int.mul_assoc, ← Int.pow_add]
 congr 2
 omega
theorem zcK {z : Int} (h : z ≠ 0) (e : Int) : mz z e ≠ 0 := by obtain ⟨j, _, _, h3, _⟩ := zao h e; exact h3
theorem zdP (za ea zb eb : Int) : zw za ea zb eb = zw zb eb za ea := by
 unfold zw; rw [Int.add_comm, Int.min_comm]
theorem zcY (za ea zb eb : Int) : zw (mz za ea) (me za ea) zb eb = zw za ea zb eb := by
 by_cases h : za = 0
 ·subst h; rw [za8, zcZ, zcZ]
 ·have hb := zaR za ea
  have h1 : ea ≤ me za ea := by omega
  rw [← zcX (za := mz za ea) (m := min ea eb) (by omega) (by omega), zdV h (by omega)]
  rfl
theorem zdQ (za ea zb eb : Int) : zw za ea (mz zb eb) (me zb eb) = zw za ea zb eb := by
 rw [zdP, zcY, zdP]
theorem zec (ea zb eb : Int) : zm 0 ea zb eb = -zb.sign := by
 unfold zm
 rw [zc2, Int.zero_sub, Int.sign_neg, zaW]
theorem zea (za ea zb eb : Int) : zm za ea zb eb = -zm zb eb za ea := by
 unfold zm
 rw [← Int.sign_neg, Int.neg_sub, Int.min_comm]
theorem zeb (za ea zb eb : Int) : zm (mz za ea) (me za ea) zb eb = zm za ea zb eb := by
 by_cases h : za = 0
 ·subst h; rw [za8, zec, zec]
 ·have hb := zaR za ea
  have h1 : ea ≤ me za ea := by omega
  rw [← zc5 (za := mz za ea) (m := min ea eb) (by omega) (by omega), zdV h (by omega)]
  rfl
theorem zfX (za ea zb eb : Int) : zm za ea (mz zb eb) (me zb eb) = zm za ea zb eb := by
 rw [zea, zeb, ← zea]
structure Rg (z e : Int) : Prop where
 b : bl z.natAbs ≤ 10000000
 lo : -40000000 ≤ e
 hi : e ≤ 40000000
theorem zeF (z e : Int) : mz (-z) e = -mz z e ∧ me (-z) e = me z e := by
 by_cases h : z = 0
 ·subst h; exact ⟨rfl, rfl⟩
 ·have hv := zdF (zbg z e)
  have h1 : mk (-mz z e) (me z e) = mk (-z) e := by
   obtain ⟨j, h1, h2, h3, h4⟩ := zao h e
   have h5 : mk (-z) e = mk (-mz z e * 2 ^ j) e := by rw [Int.neg_mul, ← h1]
   rw [h5, zbV, h2]
  have h2 : mk (-(sv (mk z e).1 (V (mk z e).2.1))) (mk z e).2.2 = mk (-z) e := h1
  rw [h2] at hv
  refine ⟨?_, hv.2.2⟩
  have h3 : mz (-z) e = sv (mk (-z) e).1 (V (mk z e).2.1) := by unfold mz; rw [hv.1]
  rw [h3, hv.2.1]; rfl
theorem zhg {za ea zb eb : Int} (ha : Rg za ea) (hb : Rg zb eb) : Ev (fun k => zaO.f k (mk za ea).1 (mk za ea).2.1 (mk za ea).2.2 (mk zb eb).1 (mk zb eb).2.1 (mk zb eb).2.2) (mk (za * zb) (ea + eb)) := by
 have a1 := zcI za ea
 have b1 := zcI zb eb
 have a2 := zaR za ea
 have b2 := zaR zb eb
 obtain ⟨h1, h2, h3⟩ := ha
 obtain ⟨h4, h5, h6⟩ := hb
 have e1 : (mk za ea).2.2 = me za ea := rfl
 have e2 : (mk zb eb).2.2 = me zb eb := rfl
 refine zg (zhm (zbg za ea) (zbg zb eb) (by omega) (by omega) (by omega) (by omega) (by omega) (by omega)) ?_
 show mk (mz za ea * mz zb eb) (me za ea + me zb eb) = _
 by_cases c : za = 0
 ·subst c; rw [za8, Int.zero_mul, Int.zero_mul]; rfl
 by_cases c2 : zb = 0
 ·subst c2; rw [za8, Int.mul_zero, Int.mul_zero]; rfl
 obtain ⟨j, p1, p2, _, _⟩ := zao c ea
 obtain ⟨i, q1, q2, _, _⟩ := zao c2 eb
 have e3 : za * zb = mz za ea * mz zb eb * 2 ^ (j + i) := by
  conv => lhs; rw [p1, q1]
  rw [Int.pow_add, Int.mul_assoc, Int.mul_assoc]
  congr 1
  rw [Int.mul_left_comm]
 rw [e3, zbV, p2, q2]
 congr 1
 omega
theorem zeT (a e b e' : Int) (h : bl a.natAbs ≤ 1000000000) : Ev (fun k => zaZ.f k (mk a e).1 (mk a e).2.1 (mk a e).2.2 (mk b e').1 (mk b e').2.1 (mk b e').2.2) (decide (mk a e = mk b e')) := by
 have a1 := zcI a e
 exact zhp _ _ _ _ _ _ (by omega)
theorem zgM {a b e : Int} (h : mk a e = mk b e) : a = b := by
 by_cases c : a = 0
 ·by_cases c2 : b = 0
  ·rw [c, c2]
  ·exfalso
   have h1 := zcK c2 e
   have h2 : mz a e = mz b e := by unfold mz; rw [h]
   rw [c, za8] at h2
   exact h1 h2.symm
 ·by_cases c2 : b = 0
  ·exfalso
   have h1 := zcK c e
   have h2 : mz a e = mz b e := by unfold mz; rw [h]
   rw [c2, za8] at h2
   exact h1 h2
  ·have h2 : mz a e = mz b e := by unfold mz; rw [h]
   have h3 : me a e = me b e := by unfold me; rw [h]
   obtain ⟨j, p1, p2, _, _⟩ := zao c e
   obtain ⟨i, q1, q2, _, _⟩ := zao c2 e
   have : j = i := by omega
   subst this
   rw [p1, q1, h2]
theorem zgL {a b ea eb m : Int} (h1 : m ≤ ea) (h2 : m ≤ eb) : mk a ea = mk b eb ↔ al a ea m = al b eb m := by
 rw [← zch (z := a) h1, ← zch (z := b) h2]
 exact ⟨zgM, fun h => by rw [h]⟩
theorem zc4 {f : Int} (h : isF f) (w : Nat) : 1 ≤ cls f w ∧ cls f w ≤ 5 := by
 rw [zd9 h]; split
 ·split <;> omega
 ·split
  ·omega
  ·split <;> omega
theorem zgV {z : Int} (h : z ≠ 0) (e : Int) : ∃ j : Nat, z.natAbs = V (mk z e).2.1 * 2 ^ j ∧ (mk z e).2.2 = e + j ∧ (mk z e).1 = decide (z < 0) ∧ V (mk z e).2.1 ≠ 0 := by
 have hza : z.natAbs ≠ 0 := by omega
 obtain ⟨q, hq⟩ := zbt hza
 have hd : z.natAbs / 2 ^ lw z.natAbs = 2 * q + 1 := by
  have : z.natAbs / 2 ^ lw z.natAbs = 2 ^ lw z.natAbs * (2 * q + 1) / 2 ^ lw z.natAbs := by rw [← hq]
  rw [this, Nat.mul_div_cancel_left _ (zp _)]
 have hm : mk z e = (decide (z < 0), D (z.natAbs / 2 ^ lw z.natAbs), e + (lw z.natAbs : Nat)) := by unfold mk; rw [if_neg h]
 refine ⟨lw z.natAbs, ?_, by rw [hm], by rw [hm], ?_⟩
 ·rw [hm]
  show _ = V (D _) * _
  rw [V_D, hd, Nat.mul_comm]; exact hq
 ·rw [hm]
  show V (D _) ≠ 0
  rw [V_D, hd]; omega
theorem zd4 (x y : Nat) : bl (x * y) ≤ bl x + bl y := zaa (by rw [Nat.pow_add]; exact Nat.mul_lt_mul'' (zaC x) (zaC y))
theorem zeP {f : Int} (h : isF f) (w : Nat) : zbj.f f (w : Int) = some (decide (cls f w < 4)) := by
 have hb := zc4 h w
 unfold zbj.f
 rw [zhe h w, Option.bind_some]
 by_cases c : cls f w = 4
 ·rw [if_neg (fun h => h c)]
  rw [decide_eq_false (by omega)]
 ·rw [if_pos c]
  congr 1
  exact decide_eq_decide.2 (by omega)
theorem zgP {a b ea eb c : Int} (h : mk a ea = mk b eb) : mk a (ea + c) = mk b (eb + c) := by
 by_cases ha : a = 0
 ·have hb : b = 0 := by
   by_cases hb : b = 0
   ·exact hb
   ·exfalso
    have h1 := zcK hb eb
    unfold mz at h1
    rw [← h, ha] at h1
    exact h1 rfl
  rw [ha, hb]; rfl
 ·by_cases hb : b = 0
  ·exfalso
   have h1 := zcK ha ea
   unfold mz at h1
   rw [h, hb] at h1
   exact h1 rfl
  ·have hm : mz a ea = mz b eb := by unfold mz; rw [h]
   have he : me a ea = me b eb := by unfold me; rw [h]
   obtain ⟨j, j1, j2, _, _⟩ := zao ha ea
   obtain ⟨i, i1, i2, _, _⟩ := zao hb eb
   have h1 : mk a (ea + c) = mk (mz a ea) (ea + c + j) := by
    have : mk a (ea + c) = mk (mz a ea * 2 ^ j) (ea + c) := by rw [← j1]
    rw [this, zbV]
   have h2 : mk b (eb + c) = mk (mz b eb) (eb + c + i) := by
    have : mk b (eb + c) = mk (mz b eb * 2 ^ i) (eb + c) := by rw [← i1]
    rw [this, zbV]
   rw [h1, h2, hm]
   congr 1; omega
open Go.RowKit Go.Proofs.YtioialhbjmnndaaDoor.Eng
theorem zeE (A Bl : List Int) (i : Nat) (x : Int) (hx : 0 ≤ x ∧ x < 4294967296) (hB : Dg Bl) (hl : A.length < 1000000000) (hlb : Bl.length < 1000000000) (hi : i < A.length) (res : List Int) : ∀ (b done r pb : List Int) (c : Int), Bl = pb ++ b → done.length = i + pb.length → b.length < r.length → Dg r → 0 ≤ c ∧ c < 4294967296 →
  Ev (fun k => zu.l0 k Bl (done ++ zD x b r c) A A.length ((i + 1 : Nat) : Int)) res →
  Ev (fun k => zu.l1 k Bl (done ++ r) i x c A A.length i Bl Bl.length pb.length) res
 | [], done, r, pb, c, he, hd, hr, hg, hc, H => by
  obtain ⟨y, r, rfl⟩ : ∃ y r', r = y :: r' := by
   cases r with
   | nil => simp at hr
   | cons y r' => exact ⟨y, r', rfl⟩
  have hlen : Bl.length = pb.length := by rw [he]; simp
  refine zf ?_
  have e : wrap64 ((i : Int) + (Bl.length : Int)) = ((i + Bl.length : Nat) : Int) := by unfold wrap64; omega
  simp only [zu.l1, e, zal (n := i) (by omega)]
  clear e
  refine ze (by omega) (zd (by omega) (zd (by simp; omega) ?_))
  have hs : (done ++ y :: r).set (((i + Bl.length : Nat) : Int)).toNat (c % 4294967296) = done ++ zD x [] (y :: r) c := by
   rw [zbx (by omega)]; simp [zD]; omega
  rw [hs]; exact H
 | y :: b, done, r, pb, c, he, hd, hr, hg, hc, H => by
  obtain ⟨o, r, rfl⟩ : ∃ y r', r = y :: r' := by
   cases r with
   | nil => simp at hr
   | cons y r' => exact ⟨y, r', rfl⟩
  have hlen : Bl.length = pb.length + 1 + b.length := by rw [he]; simp; omega
  have hy : 0 ≤ y ∧ y < 4294967296 := by rw [he] at hB; exact hB.right.head
  have ho := hg.head
  have hp := zcJ hx hy
  refine zf ?_
  have e : wrap64 ((i : Int) + (pb.length : Int)) = ((done.length : Nat) : Int) := by unfold wrap64; omega
  simp only [zu.l1, e, zal (n := pb.length) (by omega)]
  clear e
  refine zd (by omega) (zd (by omega) (zd (by omega) (zd (by omega) (zd (by simp; omega) (zd (by omega) (zd (by simp; omega) ?_))))))
  have h1 : rd Bl (pb.length : Int) = y := by rw [he]; exact zak rfl
  have h2 : rd (done ++ o :: r) (done.length : Int) = o := zak rfl
  rw [h1, h2, zbx rfl, u64 hx.1 (by omega), u64 hy.1 (by omega), u64 ho.1 (by omega), u64 (n := x * y) hp.1 (by omega), u64 (n := x * y + o) (by omega) (by omega), u64 (n := x * y + o + c) (by omega) (by omega)]
  have := zeE A Bl i x hx hB hl hlb hi res b (done ++ [(x * y + o + c) % 4294967296]) r (pb ++ [y]) ((x * y + o + c) / 4294967296) (by rw [he]; simp) (by simp [hd]; omega) (by simpa using hr) hg.tail (by omega) (by simpa [zD] using H)
  simpa using this
theorem zeD (A Bl : List Int) (hA : Dg A) (hB : Dg Bl) (hl : A.length < 1000000000) (hlb : Bl.length < 1000000000) : ∀ (a done r pa : List Int), A = pa ++ a → done.length = pa.length → Dg done → Dg r → r.length = Bl.length + a.length → r.drop Bl.length = List.replicate a.length 0 →
  Ev (fun k => zu.l0 k Bl (done ++ r) A A.length done.length) (D (V (done ++ zaH a Bl r)))
 | [], done, r, pa, he, hd, hg, hr, hrl, hz => by
  have hlen : A.length = done.length := by rw [he, hd]; simp
  refine zf ?_
  simp only [zu.l0]
  refine ze (by omega) ?_
  refine Ev.bind (zbY (hg.app hr) (by simp; simp at hrl; omega)) ?_
  exact Ev.now _
 | x :: a, done, r, pa, he, hd, hg, hr, hrl, hz => by
  have hlen : A.length = done.length + 1 + a.length := by rw [he, hd]; simp; omega
  have hx : 0 ≤ x ∧ x < 4294967296 := by rw [he] at hA; exact hA.right.head
  have hrr := zdr hx Bl r 0 a.length hB hr (by omega) (by simpa using hz)
  refine zf ?_
  simp only [zu.l0]
  refine zd (by omega) (zd (by omega) (zd (by omega) ?_))
  have h1 : rd A (done.length : Int) = x := by rw [he]; exact zak (by omega)
  rw [h1]
  refine zeE A Bl done.length x hx hB hl hlb (by omega) _ Bl done r [] 0 rfl rfl (by simp at hrl; omega) hr (by omega) ?_
  obtain ⟨r0, r', e⟩ : ∃ r0 r', zD x Bl r 0 = r0 :: r' := by
   cases h : zD x Bl r 0 with
   | nil =>
    have hl := hrr.2.2.2
    rw [h] at hl
    simp at hrl hl; omega
   | cons r0 r' => exact ⟨r0, r', rfl⟩
  rw [e] at hrr
  have := zeD A Bl hA hB hl hlb a (done ++ [r0]) r' (pa ++ [x]) (by rw [he]; simp) (by simp [hd]) (hg.app (Dg.cons hrr.2.1.head.1 hrr.2.1.head.2 Dg.nil)) hrr.2.1.tail (by have := hrr.2.2.2; simp at this hrl; omega) (by simpa using hrr.2.2.1)
  rw [List.length_append, List.length_singleton, List.append_assoc] at this
  have e2 : done ++ zaH (x :: a) Bl r = done ++ [r0] ++ zaH a Bl r' := by simp [zaH, e]
  rw [e, e2]; simpa using this
theorem zgZ {a b : List Int} (ha : Dg a) (hb : Dg b) (la : a.length < 1000000000) (lb : b.length < 1000000000) : Ev (fun k => zu.f k a b) (D (V a * V b)) := by
 unfold zu.f
 have e : wrap64 ((a.length : Int) + (b.length : Int)) = ((a.length + b.length : Nat) : Int) := by unfold wrap64; omega
 simp only [e]
 clear e
 refine zd (by omega) (zd (by omega) ?_)
 have := zeD a b ha hb la lb a [] (List.replicate (a.length + b.length) 0) [] rfl rfl Dg.nil (Dg.zeros _) (by simp; omega) (by simp)
 refine zg this ?_
 have h2 := zeC a b (List.replicate (a.length + b.length) 0) ha hb (Dg.zeros _) (by simp)
 simp [h2.1, zcW]
theorem zgX {a b : List Int} (ha : Nm a) (hb : Nm b) (la : a.length ≤ 4096) (lb : b.length ≤ 4096) : Ev (fun k => zbX.f k a b) (zau (V a * V b)) := by
 have h1 : may a = true := zag.2 ⟨la, ha⟩
 have h2 : may b = true := zag.2 ⟨lb, hb⟩
 have tail : Ev (fun k => (zu.f k a b).bind fun t => (z6.f t).bind fun bt => some (bt.1, bt.2)) (zau (V a * V b)) := by
  refine Ev.bind (zgZ ha.dg hb.dg (by omega) (by omega)) ?_
  exact zh (zeI _) (Ev.now _)
 unfold zbX.f
 refine Ev.bind (zcu ha.dg hb.dg (by omega) (by omega)) ?_
 refine ze (by simp [h1, h2]) ?_
 by_cases c1 : a.length > 0
 ·refine zd (by omega) ?_
  by_cases c2 : b.length > 0
  ·refine zd (by omega) ?_
   have e : wrap64 (wrap64 ((a.length : Int) + (b.length : Int)) - 1) = ((a.length + b.length - 1 : Nat) : Int) := by unfold wrap64; omega
   rw [e]
   clear e
   by_cases c3 : a.length + b.length - 1 > 4096
   ·refine zd (by omega) (zg (Ev.now _) ?_)
    have p1 := zcR ha (fun e => by subst e; simp at c1)
    have p2 := zcR hb (fun e => by subst e; simp at c2)
    have p3 := Nat.mul_le_mul p1 p2
    rw [← Nat.pow_add] at p3
    have p4 : (D (V a * V b)).length > 4096 := by
     apply Nat.lt_of_not_le
     intro k
     have p5 := zcE (V a * V b)
     have p6 := Nat.pow_lt_pow_iff_right (a := 4294967296) (by omega) |>.1 (Nat.lt_of_le_of_lt p3 p5)
     omega
    unfold zau; rw [if_pos p4]
   ·exact ze (by omega) tail
  ·exact ze (by omega) tail
 ·exact ze (by omega) tail
theorem zge {sa sb : Bool} {la lb : List Int} {ea eb : Int} (ha : My sa la ea) (hb : My sb lb eb) (hl : bl (V la) + bl (V lb) ≤ 131000) (h1 : -16000000 ≤ ea + eb) (h2 : ea + eb ≤ 16000000) : Ev (fun k => zbo.f k sa la ea sb lb eb) (ok3 (mk (sv sa (V la) * sv sb (V lb)) (ea + eb))) := by
 have a1 := ha.lo
 have a2 := ha.hi
 have b1 := hb.lo
 have b2 := hb.hi
 have hbl := zd4 (V la) (V lb)
 have hlen := z5 (x := V la * V lb) (k := 4096) (by omega)
 have e : wrap64 (ea + eb) = ea + eb := zhX (by omega) (by omega) (by omega) (by omega)
 have m1 := zgX ha.dy.nm hb.dy.nm ha.len hb.len
 rw [zd7 (by omega)] at m1
 have k1 := zbn (sa != sb) (zC (V la * V lb)) (by omega) (ea + eb)
 rw [V_D, zbu (by omega) (by omega), ← zfd] at k1
 have hne : (decide (¬ sa = sb)) = (sa != sb) := by cases sa <;> cases sb <;> rfl
 unfold zbo.f
 refine Ev.bind (zcy ha hb) ?_; try dsimp only
 refine ze (by simp) ?_
 refine Ev.bind (m1) ?_; try dsimp only
 refine ze (by simp) ?_
 rw [e, hne]
 clear e
 refine Ev.bind (k1) ?_; try dsimp only
 exact Ev.now _
theorem zdi {z e : Int} (hb : bl z.natAbs ≤ 131072) (h1 : -16777216 ≤ e) (h2 : e + (bl z.natAbs : Nat) ≤ 16777216) : My (mk z e).1 (mk z e).2.1 (mk z e).2.2 := by
 have a1 := zcI z e
 have a2 := zaR z e
 have e1 : (mk z e).2.2 = me z e := rfl
 exact ⟨zbg z e, by omega, by omega, by omega⟩
theorem zgN (za ea zb eb : Int) : mk (mz za ea * mz zb eb) (me za ea + me zb eb) = mk (za * zb) (ea + eb) := by
 by_cases c : za = 0
 ·subst c; rw [za8, Int.zero_mul, Int.zero_mul]; rfl
 by_cases c2 : zb = 0
 ·subst c2; rw [za8, Int.mul_zero, Int.mul_zero]; rfl
 obtain ⟨j, p1, p2, _, _⟩ := zao c ea
 obtain ⟨i, q1, q2, _, _⟩ := zao c2 eb
 have e3 : za * zb = mz za ea * mz zb eb * 2 ^ (j + i) := by
  conv => lhs; rw [p1, q1]
  rw [Int.pow_add, Int.mul_assoc, Int.mul_assoc]
  congr 1
  rw [Int.mul_left_comm]
 rw [e3, zbV, p2, q2]
 congr 1
 omega
theorem zdL (z e : Int) : bl (V (mk z e).2.1) ≤ bl z.natAbs := by
 by_cases c : z = 0
 ·subst c; exact Nat.zero_le _
 ·obtain ⟨j, j1, _⟩ := zgV c e
  rw [j1]
  have h := zb9 (V (mk z e).2.1) j
  have hp : V (mk z e).2.1 ≤ V (mk z e).2.1 * 2 ^ j := Nat.le_mul_of_pos_right _ (zp j)
  exact zb8 hp
theorem zhc {za ea zb eb : Int} (hb : bl za.natAbs + bl zb.natAbs ≤ 131000) (h1 : -8000000 ≤ ea) (h2 : ea ≤ 7000000) (h3 : -8000000 ≤ eb) (h4 : eb ≤ 7000000) : Ev (fun k => zbo.f k (mk za ea).1 (mk za ea).2.1 (mk za ea).2.2 (mk zb eb).1 (mk zb eb).2.1 (mk zb eb).2.2) (ok3 (mk (za * zb) (ea + eb))) := by
 have a2 := zaR za ea
 have b2 := zaR zb eb
 have a3 := zdL za ea
 have b3 := zdL zb eb
 have e1 : (mk za ea).2.2 = me za ea := rfl
 have e2 : (mk zb eb).2.2 = me zb eb := rfl
 refine zg (zge (zdi (z := za) (e := ea) (by omega) (by omega) (by omega)) (zdi (z := zb) (e := eb) (by omega) (by omega) (by omega)) (by omega) (by omega) (by omega)) ?_
 show ok3 (mk (mz za ea * mz zb eb) (me za ea + me zb eb)) = _
 rw [zgN]
structure Wn (L H : Int) (s : Bool) (l : List Int) (e : Int) : Prop where
 dy : Dy s l e
 lo : l ≠ [] → L ≤ e
 hi : l ≠ [] → e + (bl (V l) : Nat) ≤ H
structure Wk (L H : Int) : Prop where
 lo : -1000000 ≤ L
 hi : H ≤ 1000000
 sz : H - L ≤ 130000
theorem Wn.bls {L H : Int} {s : Bool} {l : List Int} {e : Int} (h : Wn L H s l e) (k : Wk L H) : bl (V l) ≤ 130000 := by
 by_cases c : l = []
 ·subst c; exact Nat.zero_le _
 ·have h1 := h.lo c
  have h2 := h.hi c
  have h3 := k.sz
  omega
theorem Wn.ex {L H : Int} {s : Bool} {l : List Int} {e : Int} (h : Wn L H s l e) (k : Wk L H) : -1000000 ≤ e ∧ e ≤ 1000000 := by
 by_cases c : l = []
 ·have h1 := (h.dy.none c).2
  omega
 ·have h1 := h.lo c
  have h2 := h.hi c
  have h3 := k.lo
  have h4 := k.hi
  omega
theorem Wn.len {L H : Int} {s : Bool} {l : List Int} {e : Int} (h : Wn L H s l e) (k : Wk L H) : l.length ≤ 4096 := by
 have h1 := h.bls k
 have h2 := h.dy.nm
 unfold Nm at h2
 rw [← h2]
 exact z5 (by omega)
theorem Wn.my {L H : Int} {s : Bool} {l : List Int} {e : Int} (h : Wn L H s l e) (k : Wk L H) : My s l e := by
 have h1 := h.ex k
 exact ⟨h.dy, h.len k, by omega, by omega⟩
theorem zfu {e m : Int} (h1 : -1000000 ≤ e ∧ e ≤ 1000000) (h2 : -1000000 ≤ m ∧ m ≤ 1000000) (h : m ≤ e) : wrap64 (e - m) = ((e - m).toNat : Int) := by unfold wrap64; omega
theorem zhY {n b : Nat} (hn : n ≤ 2000000) (hb : b ≤ 2000000) : wrap64 ((n : Int) + (b : Int)) = ((n + b : Nat) : Int) := by unfold wrap64; omega
theorem zfr {la lb : List Int} {sa sb : Bool} {ea : Int} (da : Nm la) (db : Nm lb) (n : Nat) (h1 : -1000000 ≤ ea ∧ ea ≤ 1000000) (hn : bl (V lb) + n ≤ 130000) (ha : bl (V la) ≤ 130000) (hb : bl (V lb) ≤ 130000) (h2 : n ≤ 130000) :
  Ev (fun k => zR.f k lb) (bl (V lb) : Nat) ∧ wrap64 ((n : Int) + ((bl (V lb) : Nat) : Int)) = ((n + bl (V lb) : Nat) : Int) ∧ Ev (fun k => zN.f k lb (n : Int)) (D (V lb * 2 ^ n), false, 0) ∧ Ev (fun k => zan.f k sb (D (V lb * 2 ^ n)) sa la ea) (ok3 (mk (sv sb (V lb * 2 ^ n) + sv sa (V la)) ea)) := by
 have hu := zb9 (V lb) n
 have ll : lb.length ≤ 4096 := by
  have h3 := db
  unfold Nm at h3
  rw [← h3]
  exact z5 (by omega)
 have hs := zcj db ll (n : Int)
 rw [zcM (by omega)] at hs
 have j1 := zgh sb sa (V lb * 2 ^ n) (V la) (e := ea) (by omega) (by omega) (by omega) (by omega)
 have h3 := da
 unfold Nm at h3
 rw [h3] at j1
 exact ⟨zbW db ll, zhY (by omega) (by omega), hs, j1⟩
theorem zel {L H : Int} (k : Wk L H) {sa sb : Bool} {la lb : List Int} {ea eb : Int} (ha : Wn L H sa la ea) (hb : Wn L H sb lb eb) : Ev (fun k => zae.f k sa la ea sb lb eb) (ok3 (zw (sv sa (V la)) ea (sv sb (V lb)) eb)) := by
 have xa := ha.ex k
 have xb := hb.ex k
 have ba := ha.bls k
 have bb := hb.bls k
 have lla := ha.len k
 have llb := hb.len k
 have da := ha.dy
 have db := hb.dy
 unfold zae.f
 by_cases c : la = []
 ·subst c
  clear ha hb
  (repeat (first | with_reducible refine ep ?_ | with_reducible refine en ?_))
  refine zh (zcA sb eb (by omega)) ?_
  (repeat (first | with_reducible refine ep ?_ | with_reducible refine en ?_))
  refine zg (Ev.now _) ?_
  rw [zU, zas, zcZ, zeL db]
 refine ze (fun h => c (zai.1 h)) ?_
 by_cases c2 : lb = []
 ·subst c2
  clear ha hb
  (repeat (first | with_reducible refine ep ?_ | with_reducible refine en ?_))
  refine zh (zcA sa ea (by omega)) ?_
  (repeat (first | with_reducible refine ep ?_ | with_reducible refine en ?_))
  refine zg (Ev.now _) ?_
  rw [zU, zas, zfE, zeL da]
 refine ze (fun h => c2 (zai.1 h)) ?_
 have la1 := ha.lo c
 have la2 := ha.hi c
 have lb1 := hb.lo c2
 have lb2 := hb.hi c2
 have ksz := k.sz
 clear ha hb k
 by_cases c3 : ea < eb
 ·have hw := zfu xb xa (by omega)
  have hn : bl (V lb) + (eb - ea).toNat ≤ 130000 := by omega
  have e0 : zw (sv sa (V la)) ea (sv sb (V lb)) eb = mk (sv sb (V lb * 2 ^ (eb - ea).toNat) + sv sa (V la)) ea := by
   rw [← zcX (m := ea) (by omega) (by omega), zct, zct, Int.sub_self, Int.add_comm]
   show mk (_ + sv sa (V la * 2 ^ 0)) ea = _
   rw [Nat.pow_zero, Nat.mul_one]
  rw [e0]
  obtain ⟨hl, hw3, hs, j1⟩ := zfr (sa := sa) (sb := sb) (ea := ea) da.nm db.nm (eb - ea).toNat xa hn ba bb (by omega)
  clear e0
  generalize (eb - ea).toNat = n at *
  refine zd c3 ?_
  refine zf ?_
  simp only [zae.j1, hw]
  clear hw
  refine Ev.bind hl ?_
  rw [hw3]
  refine ze (by omega) ?_
  refine Ev.bind hl ?_
  rw [hw3]
  clear hw3
  refine ze (by omega) ?_
  refine Ev.bind hs ?_
  dsimp only
  refine Ev.bind j1 ?_
  exact Ev.now _
 ·have hw := zfu xa xb (by omega)
  have hn : bl (V la) + (ea - eb).toNat ≤ 130000 := by omega
  have e0 : zw (sv sa (V la)) ea (sv sb (V lb)) eb = mk (sv sa (V la * 2 ^ (ea - eb).toNat) + sv sb (V lb)) eb := by
   rw [← zcX (m := eb) (by omega) (by omega), zct, zct, Int.sub_self]
   show mk (_ + sv sb (V lb * 2 ^ 0)) eb = _
   rw [Nat.pow_zero, Nat.mul_one]
  rw [e0]
  obtain ⟨hl, hw3, hs, j1⟩ := zfr (sa := sb) (sb := sa) (ea := eb) db.nm da.nm (ea - eb).toNat xb hn bb ba (by omega)
  clear e0
  generalize (ea - eb).toNat = n at *
  refine ze c3 ?_
  refine zf ?_
  simp only [zae.j1, hw]
  clear hw
  refine Ev.bind hl ?_
  rw [hw3]
  refine ze (by omega) ?_
  refine Ev.bind hl ?_
  rw [hw3]
  clear hw3
  refine ze (by omega) ?_
  refine Ev.bind hs ?_
  dsimp only
  refine Ev.bind j1 ?_
  exact Ev.now _
theorem zgc {L H : Int} (k : Wk L H) {sa sb : Bool} {la lb : List Int} {ea eb : Int} (ha : Wn L H sa la ea) (hb : Wn L H sb lb eb) : Ev (fun k => zbl.f k sa la ea sb lb eb) (ok3 (zw (sv sa (V la)) ea (sv sb (V lb)) eb)) := by
 unfold zbl.f
 refine Ev.bind (zcy (ha.my k) (hb.my k)) ?_
 refine ze (by simp) ?_
 refine Ev.bind (zel k ha hb) ?_
 exact Ev.now _
theorem zgg {L H : Int} (k : Wk L H) {sa sb : Bool} {la lb : List Int} {ea eb : Int} (ha : Wn L H sa la ea) (hb : Wn L H sb lb eb) : Ev (fun k => zbp.f k sa la ea sb lb eb) (ok3 (zw (sv sa (V la)) ea (-(sv sb (V lb))) eb)) := by
 unfold zbp.f
 have hv := zdF hb.dy
 have hd := zbg (-(sv sb (V lb))) eb
 rw [hv.1, hv.2.2] at hd
 have hn : Wn L H (mk (-(sv sb (V lb))) eb).1 lb eb := ⟨hd, hb.lo, hb.hi⟩
 have h1 := zel k ha hn
 rw [hv.2.1] at h1
 refine Ev.bind (zcy (ha.my k) (hb.my k)) ?_
 refine ze (by simp) ?_
 refine zh (zgi hb.dy (hb.len k)) ?_
 simp only [hv.1, hv.2.2]
 refine Ev.bind h1 ?_
 exact Ev.now _
theorem zgj {L H : Int} (k : Wk L H) {sa sb : Bool} {la lb : List Int} {ea eb : Int} (ha : Wn L H sa la ea) (hb : Wn L H sb lb eb) (ca : la ≠ []) (cb : lb ≠ []) : Ev (fun k => z3.f k sa la ea sb lb eb) (zm (V la : Int) ea (V lb : Int) eb) := by
 have hma := ha.my k
 have hmb := hb.my k
 have xa := ha.ex k
 have xb := hb.ex k
 have ba := ha.bls k
 have bb := hb.bls k
 have lla := ha.len k
 have llb := hb.len k
 have da := ha.dy
 have db := hb.dy
 have la1 := ha.lo ca
 have la2 := ha.hi ca
 have lb1 := hb.lo cb
 have lb2 := hb.hi cb
 have ksz := k.sz
 clear ha hb k
 have oa := da.odd ca
 have ob := db.odd cb
 have ta := zda hma
 have tb := zda hmb
 have va : V la ≠ 0 := by omega
 have vb : V lb ≠ 0 := by omega
 have ea1 : top (sv sa (V la)) ea = ea + ((bl (V la) : Nat) : Int) := by unfold top; rw [if_neg (fun h => va (zbz.1 h)), zaU]
 have eb1 : top (sv sb (V lb)) eb = eb + ((bl (V lb) : Nat) : Int) := by unfold top; rw [if_neg (fun h => vb (zbz.1 h)), zaU]
 rw [ea1] at ta
 rw [eb1] at tb
 clear ea1 eb1
 have na := zbW da.nm lla
 have nb := zbW db.nm llb
 unfold z3.f
 refine Ev.bind ta ?_
 refine Ev.bind tb ?_
 have hm1 : min ea eb ≤ ea := by omega
 have hm2 : min ea eb ≤ eb := by omega
 have pa := zdU (z := (V la : Int)) (e := ea) (m := min ea eb) (by omega) hm1
 have pb := zdU (z := (V lb : Int)) (e := eb) (m := min ea eb) (by omega) hm2
 have qa : top (V la : Int) ea = ea + ((bl (V la) : Nat) : Int) := by unfold top; rw [if_neg (by omega)]; rfl
 have qb : top (V lb : Int) eb = eb + ((bl (V lb) : Nat) : Int) := by unfold top; rw [if_neg (by omega)]; rfl
 rw [qa] at pa
 rw [qb] at pb
 have sa1 : (al (V la : Int) ea (min ea eb)).sign = 1 := by rw [zaW]; exact Int.sign_eq_one_of_pos (by omega)
 have sb1 : (al (V lb : Int) eb (min ea eb)).sign = 1 := by rw [zaW]; exact Int.sign_eq_one_of_pos (by omega)
 by_cases c1 : ea + ((bl (V la) : Nat) : Int) < eb + ((bl (V lb) : Nat) : Int)
 ·refine zd c1 ?_
  refine zg (Ev.now _) ?_
  have hc := zef (a := al (V la : Int) ea (min ea eb)) (b := al (V lb : Int) eb (min ea eb)) (by rw [sa1, sb1]) (by rw [sa1]; decide) (by omega)
  rw [sa1, decide_eq_true (by omega : bl (al (V la : Int) ea (min ea eb)).natAbs < bl (al (V lb : Int) eb (min ea eb)).natAbs)] at hc
  unfold zm
  rw [hc]; rfl
 refine ze c1 ?_
 refine Ev.bind ta ?_
 refine Ev.bind tb ?_
 by_cases c2 : ea + ((bl (V la) : Nat) : Int) > eb + ((bl (V lb) : Nat) : Int)
 ·refine zd c2 ?_
  refine zg (Ev.now _) ?_
  have hc := zef (a := al (V la : Int) ea (min ea eb)) (b := al (V lb : Int) eb (min ea eb)) (by rw [sa1, sb1]) (by rw [sa1]; decide) (by omega)
  rw [sa1, decide_eq_false (by omega : ¬ bl (al (V la : Int) ea (min ea eb)).natAbs < bl (al (V lb : Int) eb (min ea eb)).natAbs)] at hc
  unfold zm
  rw [hc]; rfl
 refine ze c2 ?_
 refine Ev.bind na ?_
 refine Ev.bind nb ?_
 clear pa pb qa qb sa1 sb1 hm1 hm2
 have ew : wrap64 (((bl (V la) : Nat) : Int) - ((bl (V lb) : Nat) : Int)) = eb - ea := by unfold wrap64; omega
 rw [ew]
 clear ew
 by_cases c3 : eb - ea > 0
 ·obtain ⟨n, hn⟩ := Int.eq_ofNat_of_zero_le (show 0 ≤ eb - ea by omega)
  rw [hn]
  have hu := zb9 (V lb) n
  have hs := zcj db.nm llb (n : Int)
  rw [zcM (by omega)] at hs
  have cc := zcL da.nm (zC (V lb * 2 ^ n)) lla (z5 (by omega))
  rw [V_D] at cc
  refine zd (by omega) ?_
  refine Ev.bind hs ?_
  dsimp only
  refine zf ?_
  simp only [z3.j1]
  refine Ev.bind cc ?_
  refine zg (Ev.now _) ?_
  rw [← zc5 (m := ea) (by omega) (by omega), zcs, zcs, Int.sub_self, hn, zee]
  show _ = (((V la * 2 ^ 0 : Nat) : Int) - _).sign
  rw [Nat.pow_zero, Nat.mul_one]; rfl
 ·obtain ⟨n, hn⟩ := Int.eq_ofNat_of_zero_le (show 0 ≤ ea - eb by omega)
  have ew2 : wrap64 (-(eb - ea)) = (n : Int) := by unfold wrap64; omega
  rw [ew2]
  clear ew2
  have hu := zb9 (V la) n
  have hs := zcj da.nm lla (n : Int)
  rw [zcM (by omega)] at hs
  have cc := zcL (zC (V la * 2 ^ n)) db.nm (z5 (by omega)) llb
  rw [V_D] at cc
  refine ze c3 ?_
  refine Ev.bind hs ?_
  dsimp only
  refine zf ?_
  simp only [z3.j1]
  refine Ev.bind cc ?_
  refine zg (Ev.now _) ?_
  rw [← zc5 (m := eb) (by omega) (by omega), zcs, zcs, Int.sub_self, hn, zee]
  show _ = (_ - ((V lb * 2 ^ 0 : Nat) : Int)).sign
  rw [Nat.pow_zero, Nat.mul_one]; rfl
theorem zgd {L H : Int} (k : Wk L H) {sa sb : Bool} {la lb : List Int} {ea eb : Int} (ha : Wn L H sa la ea) (hb : Wn L H sb lb eb) : Ev (fun k => zbm.f k sa la ea sb lb eb) (zm (sv sa (V la)) ea (sv sb (V lb)) eb, 0) := by
 have s1 := zc9 (ha.my k)
 have s2 := zc9 (hb.my k)
 unfold zbm.f
 refine Ev.bind (zcy (ha.my k) (hb.my k)) ?_
 refine ze (by simp) ?_
 refine Ev.bind s1 ?_
 refine Ev.bind s2 ?_
 by_cases c1 : (sv sa (V la)).sign = (sv sb (V lb)).sign
 ·refine ze (by omega) ?_
  refine ze (by omega) ?_
  by_cases ca : la = []
  ·have hz : (sv sa (V la)).sign = 0 := by rw [ca, zU, zas]; rfl
   have cb : lb = [] := by
    by_cases cb : lb = []
    ·exact cb
    ·have h1 := hb.dy.odd cb
     rw [zbb (n := V lb) (by omega), hz] at c1
     split at c1 <;> omega
   subst ca; subst cb
   obtain ⟨e1, e2⟩ := zdI ha.dy
   obtain ⟨e3, e4⟩ := zdI hb.dy
   subst e1; subst e2; subst e3; subst e4
   refine Ev.bind zgk ?_
   refine zg (Ev.now _) ?_
   rw [Int.mul_zero, z8 (by omega) (by omega)]; rfl
  ·have h1 := ha.dy.odd ca
   have va : V la ≠ 0 := by omega
   have cb : lb ≠ [] := by
    intro cb
    rw [cb, zU, zas, zbb va] at c1
    have : (0 : Int).sign = 0 := rfl
    rw [this] at c1
    split at c1 <;> omega
   have h2 := hb.dy.odd cb
   have vb : V lb ≠ 0 := by omega
   have hs : sa = sb := by
    rw [zbb va, zbb vb] at c1
    cases sa <;> cases sb <;> simp at c1 <;> rfl
   refine Ev.bind (zgj k ha hb ca cb) ?_
   refine zg (Ev.now _) ?_
   rw [hs, zf0 sb (V la) (V lb) ea eb va]
   have hr := zfZ (sv sb (V la)) ea (sv sb (V lb)) eb
   have e : wrap64 (zm (sv sb (V la)) ea (sv sb (V lb)) eb) = zm (sv sb (V la)) ea (sv sb (V lb)) eb := by unfold wrap64; omega
   rw [e]
 ·have hc := zf2 (a := al (sv sa (V la)) ea (min ea eb)) (b := al (sv sb (V lb)) eb (min ea eb)) (by rw [zaW, zaW]; exact c1)
  rw [zaW, zaW] at hc
  unfold zm
  rw [hc]
  by_cases c2 : (sv sa (V la)).sign < (sv sb (V lb)).sign
  ·refine zd c2 ?_
   exact zg (Ev.now _) (by rw [if_pos c2])
  ·refine ze c2 ?_
   refine zd (by omega) ?_
   exact zg (Ev.now _) (by rw [if_neg c2])
structure Wg (L H z e : Int) : Prop where
 lo : z ≠ 0 → L ≤ e
 hi : z ≠ 0 → e + (bl z.natAbs : Nat) ≤ H
theorem zb2 {L H z e : Int} (h : Wg L H z e) : Wn L H (mk z e).1 (mk z e).2.1 (mk z e).2.2 := by
 refine ⟨zbg z e, ?_, ?_⟩
 ·intro c
  by_cases hz : z = 0
  ·subst hz; exact absurd rfl c
  ·have h1 := h.lo hz
   have h2 := zaR z e
   have h3 : (mk z e).2.2 = me z e := rfl
   omega
 ·intro c
  by_cases hz : z = 0
  ·subst hz; exact absurd rfl c
  ·have h1 := h.hi hz
   obtain ⟨j, p1, p2, p3, p4⟩ := zao hz e
   have h3 : (mk z e).2.2 = me z e := rfl
   have h4 : bl (mz z e).natAbs = bl (V (mk z e).2.1) := by unfold mz; rw [zaU]
   omega
theorem zhT {L H : Int} (k : Wk L H) {za ea zb eb : Int} (ha : Wg L H za ea) (hb : Wg L H zb eb) : Ev (fun k => zbl.f k (mk za ea).1 (mk za ea).2.1 (mk za ea).2.2 (mk zb eb).1 (mk zb eb).2.1 (mk zb eb).2.2) (ok3 (zw za ea zb eb)) := by
 refine zg (zgc k (zb2 ha) (zb2 hb)) ?_
 show ok3 (zw (mz za ea) (me za ea) (mz zb eb) (me zb eb)) = _
 rw [zcY, zdQ]
theorem zhV {L H : Int} (k : Wk L H) {za ea zb eb : Int} (ha : Wg L H za ea) (hb : Wg L H zb eb) : Ev (fun k => zbp.f k (mk za ea).1 (mk za ea).2.1 (mk za ea).2.2 (mk zb eb).1 (mk zb eb).2.1 (mk zb eb).2.2) (ok3 (zw za ea (-zb) eb)) := by
 refine zg (zgg k (zb2 ha) (zb2 hb)) ?_
 show ok3 (zw (mz za ea) (me za ea) (-mz zb eb) (me zb eb)) = _
 rw [zcY, ← (zeF zb eb).1, ← (zeF zb eb).2, zdQ]
theorem zhU {L H : Int} (k : Wk L H) {za ea zb eb : Int} (ha : Wg L H za ea) (hb : Wg L H zb eb) : Ev (fun k => zbm.f k (mk za ea).1 (mk za ea).2.1 (mk za ea).2.2 (mk zb eb).1 (mk zb eb).2.1 (mk zb eb).2.2) (zm za ea zb eb, 0) := by
 refine zg (zgd k (zb2 ha) (zb2 hb)) ?_
 show (zm (mz za ea) (me za ea) (mz zb eb) (me zb eb), (0 : Int)) = _
 rw [zeb, zfX]
theorem zfq {f : Int} (h : isF f) (w : Nat) : Ev (fun k => zbC.f k f (w : Int)) (zax f w) := by
 unfold zbC.f
 exact Ev.bind (zdA h w) (Ev.now _)
theorem zhb {f : Int} (h : isF f) (a b : Nat) : Ev (fun k => zbZ.f k f (a : Int) (b : Int)) (if a < 2 * sg f ∧ b < 2 * sg f then 0 else 6) := by
 unfold zbZ.f
 have ha := zfq h a
 have hb := zfq h b
 unfold zax at ha hb
 by_cases c : a < 2 * sg f
 ·rw [if_pos c] at ha
  refine Ev.bind ha (ze (by simp) (Ev.bind hb ?_))
  by_cases d : b < 2 * sg f
  ·rw [if_pos d, if_pos ⟨c, d⟩]; exact Ev.now _
  ·rw [if_neg d, if_neg (fun hh => d hh.2)]; exact Ev.now _
 ·rw [if_neg c] at ha
  rw [if_neg (fun hh => c hh.1)]
  exact Ev.bind ha (zd (by simp) (Ev.now _))
theorem ze3 {f : Int} (h : isF f) (l : List (Nat × Nat)) (hl : l.length ≤ 1000) (hw : ∀ p ∈ l, p.1 < 18446744073709551616 ∧ p.2 < 18446744073709551616) : ∀ n i : Nat, i + n = l.length →
  Ev (fun k => zZ.l0 k f (l.map fun p => ((p.1 : Int), (p.2 : Int))) (i : Int)) (if ∀ p ∈ l.drop i, p.1 < 2 * sg f ∧ p.2 < 2 * sg f then 0 else 6)
 | 0, i, hi => by
  refine zf ?_; simp only [zZ.l0]
  rw [List.drop_eq_nil_of_le (by omega), if_pos (fun p hp => by cases hp)]
  exact ze (by rw [List.length_map]; omega) (Ev.now _)
 | n + 1, i, hi => by
  have hd : l.drop i = l[i] :: l.drop (i + 1) := List.drop_eq_getElem_cons (by omega)
  have hr : rdT [.i .u64, .i .u64] (l.map fun p => ((p.1 : Int), (p.2 : Int))) (i : Int) = ((l[i].1 : Int), (l[i].2 : Int)) := by
   unfold rdT
   rw [Int.toNat_natCast, List.getD_eq_getElem?_getD, List.getElem?_map, List.getElem?_eq_getElem (by omega)]
   rfl
  obtain ⟨b1, b2⟩ := hw l[i] (List.getElem_mem _)
  have e1 : wrap64 ((i : Int) + 1) = ((i + 1 : Nat) : Int) := by rw [w64 (by omega) (by omega)]; omega
  have ih := ze3 h l hl hw n (i + 1) (by omega)
  refine zf ?_; simp only [zZ.l0]
  rw [hr, e1, hd]
  refine zd (by rw [List.length_map]; omega) (zd (by omega) (zd (by rw [List.length_map]; omega) (zh (zeR h b1) ?_)))
  by_cases c : l[i].1 < 2 * sg f
  ·refine ze (by unfold zax; rw [if_pos c]; simp) (zd (by omega) (zd (by rw [List.length_map]; omega) (zh (zeR h b2) ?_)))
   by_cases d : l[i].2 < 2 * sg f
   ·refine ze (by unfold zax; rw [if_pos d]; simp) ?_
    refine zg ih ?_
    by_cases e : ∀ p ∈ l.drop (i + 1), p.1 < 2 * sg f ∧ p.2 < 2 * sg f
    ·rw [if_pos e, if_pos (fun p hp => by
      rcases List.mem_cons.1 hp with rfl | hp
      ·exact ⟨c, d⟩
      ·exact e p hp)]
    ·rw [if_neg e, if_neg (fun hh => e (fun p hp => hh p (List.mem_cons_of_mem _ hp)))]
   ·refine zd (by unfold zax; rw [if_neg d]; simp) ?_
    rw [if_neg (fun hh => d (hh _ (List.mem_cons_self)).2)]
    exact Ev.now _
  ·refine zd (by unfold zax; rw [if_neg c]; simp) ?_
   rw [if_neg (fun hh => c (hh _ (List.mem_cons_self)).1)]
   exact Ev.now _
theorem zhx {f : Int} (h : isF f) (l : List (Nat × Nat)) (hl : l.length ≤ 1000) (hw : ∀ p ∈ l, p.1 < 18446744073709551616 ∧ p.2 < 18446744073709551616) :
  Ev (fun k => zZ.f k f (l.map fun p => ((p.1 : Int), (p.2 : Int)))) (if ∀ p ∈ l, p.1 < 2 * sg f ∧ p.2 < 2 * sg f then 0 else 6) := by
 unfold zZ.f
 refine zh (zdn f) ?_
 rw [decide_eq_true h]
 exact ze (by simp) (ze3 h l hl hw l.length 0 (by omega))
theorem zhw {f : Int} (h : ¬ isF f) (l : List (Int × Int)) : Ev (fun k => zZ.f k f l) 4 := by
 unfold zZ.f
 refine zh (zdn f) ?_
 rw [decide_eq_false h]
 exact zd rfl (Ev.now _)
def pcl (f : Int) (a b : Nat) : Int := if cls f a = 4 ∨ cls f b = 4 then 3 else if cls f a = 5 ∨ cls f b = 5 then 4 else if cls f a = 1 ∧ cls f b = 1 then 1 else 2
theorem zeN (x y : Int) (u : Bool) : Ev (fun k => zO.j2 k x y u) (if u = true then (4, 0) else if x = 1 ∧ y = 1 then (1, 0) else (2, 0)) := by
 refine zf ?_; simp only [zO.j2]
 cases u
 ·refine ze (by simp) ?_
  rw [if_neg (show ¬ (false = true) by simp)]
  by_cases c : x = 1
  ·by_cases d : y = 1
   ·rw [if_pos (show x = 1 ∧ y = 1 from ⟨c, d⟩)]; exact zd c (zd d (Ev.now _))
   ·rw [if_neg (show ¬ (x = 1 ∧ y = 1) from fun hh => d hh.2)]; exact zd c (ze d (Ev.now _))
  ·rw [if_neg (show ¬ (x = 1 ∧ y = 1) from fun hh => c hh.1)]; exact ze c (Ev.now _)
 ·exact zd rfl (Ev.now _)
theorem zeM (f x y : Int) (u : Bool) : Ev (fun k => zO.j1 k x y u) (if u = true then (3, 0) else if x = 5 ∨ y = 5 then (4, 0) else if x = 1 ∧ y = 1 then (1, 0) else (2, 0)) := by
 refine zf ?_; simp only [zO.j1]
 cases u
 ·refine ze (by simp) ?_
  rw [if_neg (show ¬ (false = true) by simp)]
  by_cases c : x = 5
  ·rw [if_pos (show x = 5 ∨ y = 5 from .inl c)]
   refine zd c (zg (zeN x y true) ?_)
   rw [if_pos rfl]
  ·refine ze c (zg (zeN x y _) ?_)
   by_cases d : y = 5
   ·rw [decide_eq_true d, if_pos (show true = true from rfl), if_pos (show x = 5 ∨ y = 5 from .inr d)]
   ·rw [decide_eq_false d, if_neg (show ¬ (false = true) by simp), if_neg (show ¬ (x = 5 ∨ y = 5) from fun hh => hh.elim c d)]
 ·exact zd rfl (Ev.now _)
theorem zha {f : Int} (h : isF f) {a b : Nat} (ha : a < 2 * sg f) (hb : b < 2 * sg f) : Ev (fun k => zO.f k f (a : Int) (b : Int)) (pcl f a b, 0) := by
 unfold zO.f pcl
 refine Ev.bind (zfv h ha) (ze (by simp) (Ev.bind (zfv h hb) (ze (by simp) ?_)))
 dsimp only
 by_cases c : cls f a = 4
 ·rw [if_pos (.inl c)]
  refine zd c (zg (zeM f _ _ true) ?_)
  rw [if_pos rfl]
 ·refine ze c (zg (zeM f _ _ _) ?_)
  by_cases d : cls f b = 4
  ·rw [decide_eq_true d, if_pos (show true = true from rfl), if_pos (.inr d)]
  ·rw [decide_eq_false d, if_neg (show ¬ (false = true) by simp), if_neg (show ¬ (cls f a = 4 ∨ cls f b = 4) from fun hh => hh.elim c d)]
   by_cases c5 : cls f a = 5 ∨ cls f b = 5
   ·rw [if_pos c5, if_pos c5]
   ·rw [if_neg c5, if_neg c5]
    split <;> rfl
def zy (f : Int) (a b : Nat) : Prop := cls f a < 4 ∧ cls f b < 4
instance (f : Int) (a b : Nat) : Decidable (zy f a b) := inferInstanceAs (Decidable (_ ∧ _))
theorem zhv {f : Int} (h : isF f) (a b : Nat) : zbR.f f (a : Int) (b : Int) = some (decide (zy f a b)) := by
 unfold zbR.f zy
 rw [zeP h, Option.bind_some, zeP h, Option.bind_some]
 by_cases c : cls f a < 4
 ·rw [if_pos (decide_eq_true c)]
  congr 1
  by_cases d : cls f b < 4 <;> simp [c, d]
 ·rw [if_neg (by simpa using c)]
  simp [c]
theorem zeO {f : Int} (h : isF f) (a b : Nat) : pcl f a b > 2 ↔ ¬ zy f a b := by
 have h1 := zc4 h a
 have h2 := zc4 h b
 unfold pcl zy
 split
 ·omega
 ·split
  ·omega
  ·split <;> omega
def zaj (f : Int) (l : List (Nat × Nat)) : Int := if ∀ p ∈ l, p.1 < 2 * sg f ∧ p.2 < 2 * sg f then (if ∀ p ∈ l, zy f p.1 p.2 then 0 else 7) else 6
theorem zeW (l : List (Nat × Nat)) {i : Nat} (hi : i < l.length) : rdT [.i .u64, .i .u64] (l.map fun p => ((p.1 : Int), (p.2 : Int))) (i : Int) = ((l[i].1 : Int), (l[i].2 : Int)) := by
 unfold rdT
 rw [Int.toNat_natCast, List.getD_eq_getElem?_getD, List.getElem?_map, List.getElem?_eq_getElem hi]
 rfl
theorem zes {f : Int} (h : isF f) (l : List (Nat × Nat)) (hl : l.length ≤ 1000) (hw : ∀ p ∈ l, p.1 < 2 * sg f ∧ p.2 < 2 * sg f) : ∀ n i : Nat, i + n = l.length →
  Ev (fun k => zF.l1 k f (l.map fun p => ((p.1 : Int), (p.2 : Int))) (l.length : Int) (i : Int)) (if ∀ p ∈ l.drop i, zy f p.1 p.2 then 0 else 7)
 | 0, i, hi => by
  refine zf ?_; simp only [zF.l1]
  rw [List.drop_eq_nil_of_le (by omega), if_pos (fun p hp => by cases hp)]
  exact ze (by omega) (Ev.now _)
 | n + 1, i, hi => by
  have hd : l.drop i = l[i] :: l.drop (i + 1) := List.drop_eq_getElem_cons (by omega)
  have hr := zeW l (i := i) (by omega)
  have e1 : wrap64 ((i : Int) + 1) = ((i + 1 : Nat) : Int) := by rw [w64 (by omega) (by omega)]; omega
  have ih := zes h l hl hw n (i + 1) (by omega)
  obtain ⟨b1, b2⟩ := hw l[i] (List.getElem_mem _)
  refine zf ?_; simp only [zF.l1]
  rw [hr, e1, hd]
  clear e1
  refine zd (by omega) (zd (by omega) (zd (by rw [List.length_map]; omega) (Ev.bind (zha h b1 b2) ?_)))
  dsimp only
  by_cases c : zy f l[i].1 l[i].2
  ·refine ze (fun hh => (zeO h _ _).1 hh c) (zg ih ?_)
   by_cases e : ∀ p ∈ l.drop (i + 1), zy f p.1 p.2
   ·rw [if_pos e, if_pos (fun p hp => by
     rcases List.mem_cons.1 hp with rfl | hp
     ·exact c
     ·exact e p hp)]
   ·rw [if_neg e, if_neg (fun hh => e (fun p hp => hh p (List.mem_cons_of_mem _ hp)))]
  ·refine zd ((zeO h _ _).2 c) ?_
   rw [if_neg (fun hh => c (hh _ List.mem_cons_self))]
   exact Ev.now _
theorem zer {f : Int} (h : isF f) (l : List (Nat × Nat)) (hl : l.length ≤ 1000) : ∀ n i : Nat, i + n = l.length → (∀ p ∈ l.take i, p.1 < 2 * sg f ∧ p.2 < 2 * sg f) →
  Ev (fun k => zF.l0 k f (l.map fun p => ((p.1 : Int), (p.2 : Int))) (l.map fun p => ((p.1 : Int), (p.2 : Int))) (l.length : Int) (i : Int)) (zaj f l)
 | 0, i, hi, hw => by
  rw [List.take_of_length_le (by omega)] at hw
  have h1 := zes h l hl hw l.length 0 (by omega)
  have e0 : ((l.map fun p : Nat × Nat => ((p.1 : Int), (p.2 : Int))).length : Int) = (l.length : Int) := by rw [List.length_map]
  refine zf ?_; simp only [zF.l0]
  rw [e0]
  refine ze (by omega) (zg h1 ?_)
  unfold zaj
  rw [if_pos hw]; rfl
 | n + 1, i, hi, hw => by
  have hr := zeW l (i := i) (by omega)
  have e1 : wrap64 ((i : Int) + 1) = ((i + 1 : Nat) : Int) := by rw [w64 (by omega) (by omega)]; omega
  have ht : l.take (i + 1) = l.take i ++ [l[i]] := by rw [List.take_succ_eq_append_getElem]
  refine zf ?_; simp only [zF.l0]
  rw [hr, e1]
  clear e1
  refine zd (by omega) (zd (by omega) (zd (by rw [List.length_map]; omega) (Ev.bind (zhb h l[i].1 l[i].2) ?_)))
  by_cases c : l[i].1 < 2 * sg f ∧ l[i].2 < 2 * sg f
  ·rw [if_pos c]
   refine ze (by simp) (zer h l hl n (i + 1) (by omega) ?_)
   rw [ht]
   intro p hp
   rcases List.mem_append.1 hp with hp | hp
   ·exact hw p hp
   ·rw [List.mem_singleton.1 hp]; exact c
  ·rw [if_neg c]
   refine zd (by simp) ?_
   unfold zaj
   rw [if_neg (fun hh => c (hh _ (List.getElem_mem _)))]
   exact Ev.now _
theorem zgt {f : Int} (h : isF f) (l : List (Nat × Nat)) (hl : l.length ≤ 1000) : Ev (fun k => zF.f k f (l.map fun p => ((p.1 : Int), (p.2 : Int)))) (zaj f l) := by
 unfold zF.f
 have h1 := zer h l hl l.length 0 (by omega) (fun p hp => by cases hp)
 have e0 : ((l.map fun p : Nat × Nat => ((p.1 : Int), (p.2 : Int))).length : Int) = (l.length : Int) := by rw [List.length_map]
 rw [e0]
 exact h1
theorem zgC (m : Nat) : zaF.f (m + 100) = some true := by kernel_rfl
theorem zbU : Ev (fun k => zaF.f k) true := by
 refine ⟨100, fun k hk => ?_⟩
 obtain ⟨m, rfl⟩ : ∃ m, k = m + 100 := ⟨k - 100, by omega⟩
 exact zgC m
def zv (f : Int) (w : Nat) : Int := sv (zaE f w) (zB f w)
structure Wz (z e : Int) : Prop where
 b : bl z.natAbs ≤ 64
 lo : -1074 ≤ e
 hi : e ≤ 3000
theorem zhZ {f : Int} (h : isF f) (w : Nat) : Wz (zv f w) (wex f w) := by
 have h1 := zft h w
 have h2 := zfs h w
 refine ⟨?_, h2.1, h2.2⟩
 unfold zv
 rw [zaU]
 exact zaa h1
theorem zd6 (x y : Int) : bl (x * y).natAbs ≤ bl x.natAbs + bl y.natAbs := by
 rw [Int.natAbs_mul]; exact zd4 _ _
theorem zfU (x y : Int) : bl (x + y).natAbs ≤ max (bl x.natAbs) (bl y.natAbs) + 1 :=
 Nat.le_trans (zb8 (Int.natAbs_add_le x y)) (zd0 _ _)
def zbf (za ea zb eb : Int) : Int := al za ea (min ea eb) + al zb eb (min ea eb)
theorem zd1 (z e m : Int) : bl (al z e m).natAbs ≤ bl z.natAbs + (e - m).toNat := by
 rw [zdT]; exact zb9 _ _
theorem zfV (za ea zb eb : Int) {n : Nat} (ha : bl za.natAbs + (ea - min ea eb).toNat ≤ n) (hb : bl zb.natAbs + (eb - min ea eb).toNat ≤ n) : bl (zbf za ea zb eb).natAbs ≤ n + 1 := by
 have h1 := zd1 za ea (min ea eb)
 have h2 := zd1 zb eb (min ea eb)
 have h3 := zfU (al za ea (min ea eb)) (al zb eb (min ea eb))
 unfold zbf
 omega
structure W2 (z e : Int) : Prop where
 b : bl z.natAbs ≤ 128
 lo : -2148 ≤ e
 hi : e ≤ 6000
theorem Wz.mul {za ea zb eb : Int} (ha : Wz za ea) (hb : Wz zb eb) : W2 (za * zb) (ea + eb) := by
 have h1 := zd6 za zb
 obtain ⟨a1, a2, a3⟩ := ha
 obtain ⟨b1, b2, b3⟩ := hb
 exact ⟨by omega, by omega, by omega⟩
theorem W2.rg {z e : Int} (h : W2 z e) : Rg z e := by
 obtain ⟨a1, a2, a3⟩ := h
 exact ⟨by omega, by omega, by omega⟩
theorem W2.neg {z e : Int} (h : W2 z e) : W2 (-z) e := by
 obtain ⟨a1, a2, a3⟩ := h
 exact ⟨by rw [Int.natAbs_neg]; exact a1, a2, a3⟩
theorem Wz.rg {z e : Int} (h : Wz z e) : Rg z e := by
 obtain ⟨a1, a2, a3⟩ := h
 exact ⟨by omega, by omega, by omega⟩
theorem zgs {f : Int} (h : isF f) {a b : Nat} (ha : a < 2 * sg f) (hb : b < 2 * sg f) (hf : zy f a b) : Ev (fun k => zbr.f k f (a : Int) (b : Int)) ((mk (zv f a) (wex f a)).1, (mk (zv f a) (wex f a)).2.1, (mk (zv f a) (wex f a)).2.2, (mk (zv f b) (wex f b)).1, (mk (zv f b) (wex f b)).2.1, (mk (zv f b) (wex f b)).2.2) := by
 unfold zbr.f
 exact Ev.bind (zfw h ha hf.1) (Ev.bind (zfw h hb hf.2) (Ev.now _))
def zbv (s : Bool) (l : List Int) (e : Int) : Bool := may l && (if l = [] then !s && decide (e = 0) else decide (V l % 2 = 1) && decide (-16777216 ≤ e ∧ e ≤ 16777216))
theorem zdg {s : Bool} {l : List Int} {e : Int} (h : zbv s l e = true) : My s l e := by
 unfold zbv at h
 rw [Bool.and_eq_true] at h
 obtain ⟨h1, h2⟩ := h
 obtain ⟨h3, h4⟩ := zag.1 h1
 by_cases c : l = []
 ·rw [if_pos c, Bool.and_eq_true, decide_eq_true_iff, Bool.not_eq_true'] at h2
  obtain ⟨h5, h6⟩ := h2
  exact ⟨⟨h4, fun _ => ⟨h5, h6⟩, fun hh => absurd c hh⟩, h3, by omega, by omega⟩
 ·rw [if_neg c, Bool.and_eq_true, decide_eq_true_iff, decide_eq_true_iff] at h2
  obtain ⟨h5, h6⟩ := h2
  exact ⟨⟨h4, fun hh => absurd hh c, fun _ => h5⟩, h3, h6.1, h6.2⟩
theorem zgy (e : Int) : zbq.f e = some (decide (-16777216 ≤ e ∧ e ≤ 16777216)) := by
 unfold zbq.f
 by_cases c : -16777216 ≤ e
 ·rw [if_pos c]; simp [c]
 ·rw [if_neg c]; simp [c]
theorem zc7 {s : Bool} {l : List Int} {e : Int} (h : Dg l) (hb : l.length ≤ 1000000) : zt.f s l e = some (zbv s l e) := by
 unfold zt.f zbv
 rw [zaS h (by omega), Option.bind_some]
 cases may l with
 | false => rw [if_pos (show (!false) = true from rfl), Bool.false_and]
 | true =>
  rw [if_neg (show ¬ (!true) = true by simp), Bool.true_and]
  by_cases c : l = []
  ·rw [if_pos (zai.2 c), if_pos c]
   cases s
   ·rw [if_pos (show (!false) = true from rfl)]; simp
   ·rw [if_neg (show ¬ (!true) = true by simp)]; simp
  ·rw [if_neg (fun hh => c (zai.1 hh)), if_neg c, if_pos (zcD c), zde h, zgy, Option.bind_some]
   by_cases o : V l % 2 = 1
   ·rw [if_pos (by omega)]; simp [o]
   ·rw [if_neg (by omega)]; simp [o]
theorem zg4 {l : List Int} (h : Dg l) : Int.tmod (rd l 0) 2 = ((V l % 2 : Nat) : Int) := by
 have h1 := zde h
 have h3 := h.rd 0
 cases l with
 | nil => rfl
 | cons d r =>
  have e : rd (d :: r) 0 = d := rfl
  rw [e] at h3 ⊢
  rw [zq, Int.tmod_eq_emod_of_nonneg h3.1]
  omega
theorem zdo {s : Bool} {l : List Int} {e : Int} (h : Dg l) (hb : l.length ≤ 1000000) : zaY.f s l e = some (zbv s l e) := by
 have e1 : zca.f l = zT.f l := rfl
 unfold zaY.f zbv
 rw [e1, zaS h (by omega), Option.bind_some]
 cases may l with
 | false => rw [if_pos (show (!false) = true from rfl), Bool.false_and]
 | true =>
  rw [if_neg (show ¬ (!true) = true by simp), Bool.true_and]
  by_cases c : l = []
  ·rw [if_pos (zai.2 c), if_pos c]
   cases s
   ·rw [if_pos (show (!false) = true from rfl)]; simp
   ·rw [if_neg (show ¬ (!true) = true by simp)]; simp
  ·rw [if_neg (fun hh => c (zai.1 hh)), if_neg c, if_pos (zcD c), zg4 h]
   by_cases o : V l % 2 = 1
   ·rw [if_pos (by omega)]
    by_cases o2 : e ≥ -16777216
    ·rw [if_pos o2]; simp [o]; intro; omega
    ·rw [if_neg o2]; simp [o]; intro; omega
   ·rw [if_neg (by omega)]; simp [o]
structure In (d : Bool × List Int × Int) : Prop where
 dg : Dg d.2.1
 len : d.2.1.length ≤ 1300
def zo (d : Bool × List Int × Int) : Prop := d.2.1.length ≤ 400 ∧ -20000 ≤ d.2.2 ∧ d.2.2 ≤ 20000
instance (d : Bool × List Int × Int) : Decidable (zo d) := inferInstanceAs (Decidable (_ ∧ _ ∧ _))
def zi (d : Bool × List Int × Int) : Bool := zbv d.1 d.2.1 d.2.2
def zX (f : Int) (a b : Nat) (k : Int) (x y z : Bool × List Int × Int) : Int :=
 if ¬ (a < 2 * sg f ∧ b < 2 * sg f) then 6 else if ¬ (zi x = true ∧ zi y = true ∧ zi z = true ∧ 0 ≤ k) then 2 else if z.2.1 = [] then 11 else if ¬ zy f a b then 7 else if zo x ∧ zo y ∧ zo z then 0 else 3
theorem zfO (x y z : Bool × List Int × Int) : Ev (fun k => zj.l0 k x.1 x.2.1 x.2.2 y.1 y.2.1 y.2.2 z.1 z.2.1 z.2.2 0) (if zo x ∧ zo y ∧ zo z then 0 else 3) := by
 have w0 : wrap64 (0 + 1) = 1 := by unfold wrap64; omega
 have w1 : wrap64 (1 + 1) = 2 := by unfold wrap64; omega
 have w2 : wrap64 (2 + 1) = 3 := by unfold wrap64; omega
 have bad : ∀ {d : Bool × List Int × Int} {g : Nat → Option Int}, ¬ zo d → Ev (fun k => if (d.2.1.length : Int) > 400 then some 3 else if d.2.2 < -20000 then some 3 else if d.2.2 > 20000 then some 3 else g k) 3 := by
  intro d g hd
  by_cases c1 : (d.2.1.length : Int) > 400
  ·exact zd c1 (Ev.now _)
  by_cases c2 : d.2.2 < -20000
  ·exact ze c1 (zd c2 (Ev.now _))
  by_cases c3 : d.2.2 > 20000
  ·exact ze c1 (ze c2 (zd c3 (Ev.now _)))
  exact absurd (⟨by omega, by omega, by omega⟩ : zo d) hd
 have good : ∀ {d : Bool × List Int × Int} {g : Nat → Option Int} {r : Int}, zo d → Ev g r → Ev (fun k => if (d.2.1.length : Int) > 400 then some 3 else if d.2.2 < -20000 then some 3 else if d.2.2 > 20000 then some 3 else g k) r := by
  intro d g r hd hg
  obtain ⟨h1, h2, h3⟩ := hd
  exact ze (by omega) (ze (by omega) (ze (by omega) hg))
 refine zf ?_; simp only [zj.l0]
 refine zd (by omega) (zd trivial ?_)
 by_cases hx : zo x
 rotate_left
 ·rw [if_neg (fun hh => hx hh.1)]; exact bad hx
 refine good hx ?_
 rw [w0]
 refine zf ?_; simp only [zj.l0]
 refine zd (by omega) (ze (by omega) (zd trivial ?_))
 by_cases hy : zo y
 rotate_left
 ·rw [if_neg (fun hh => hy hh.2.1)]; exact bad hy
 refine good hy ?_
 rw [w1]
 refine zf ?_; simp only [zj.l0]
 refine zd (by omega) (ze (by omega) (ze (by omega) (zd trivial ?_)))
 by_cases hz : zo z
 rotate_left
 ·rw [if_neg (fun hh => hz hh.2.2)]; exact bad hz
 refine good hz ?_
 rw [w2, if_pos ⟨hx, hy, hz⟩]
 refine zf ?_; simp only [zj.l0]
 exact ze (by omega) (Ev.now _)
theorem zcN {d : Bool × List Int × Int} (h : Dy d.1 d.2.1 d.2.2) : (sv d.1 (V d.2.1)).sign = 0 ↔ d.2.1 = [] := by
 constructor
 ·intro hs
  by_cases c : d.2.1 = []
  ·exact c
  ·have h1 := h.odd c
   rw [zbb (by omega)] at hs
   split at hs <;> omega
 ·intro c
  rw [c, zU, zas]; rfl
theorem zcv {f : Int} {a b : Nat} {kk n : Int} {x y z : Bool × List Int × Int} (u : Bool) (hu : u = true ↔ ¬ (zi x = true ∧ zi y = true ∧ zi z = true ∧ 0 ≤ kk)) (hn : n = if zy f a b then 0 else 7) (hw : a < 2 * sg f ∧ b < 2 * sg f) :
  Ev (fun k => zj.j2 k x.1 x.2.1 x.2.2 y.1 y.2.1 y.2.2 z.1 z.2.1 z.2.2 n u) (zX f a b kk x y z) := by
 unfold zX
 rw [if_neg (fun hh => hh hw)]
 refine zf ?_; simp only [zj.j2]
 by_cases c : u = true
 ·rw [if_pos (hu.1 c)]
  exact zd c (Ev.now _)
 have hm : zi x = true ∧ zi y = true ∧ zi z = true ∧ 0 ≤ kk := Classical.byContradiction fun hh => c (hu.2 hh)
 have hz := zdg hm.2.2.1
 rw [if_neg (fun hh => hh hm)]
 refine ze c (Ev.bind (zc9 hz) ?_)
 by_cases c2 : z.2.1 = []
 ·rw [if_pos c2]
  exact zd ((zcN hz.dy).2 c2) (Ev.now _)
 rw [if_neg c2]
 refine ze (fun hh => c2 ((zcN hz.dy).1 hh)) ?_
 subst hn
 by_cases c3 : zy f a b
 ·rw [if_pos c3, if_neg (fun hh => hh c3)]
  exact ze (by simp) (zfO x y z)
 ·rw [if_neg c3, if_pos c3]
  exact zd (by simp) (Ev.now _)
theorem zdY {f : Int} (h : isF f) (a b : Nat) (kk : Int) {x y z : Bool × List Int × Int} (hx : In x) (hy : In y) (hz : In z) :
  Ev (fun k => zj.f k f (a : Int) (b : Int) kk x.1 x.2.1 x.2.2 y.1 y.2.1 y.2.2 z.1 z.2.1 z.2.2) (zX f a b kk x y z) := by
 have ho := zgt h [(a, b)] (by simp)
 have mx := zc7 (s := x.1) (e := x.2.2) hx.dg (by have := hx.len; omega)
 have my := zc7 (s := y.1) (e := y.2.2) hy.dg (by have := hy.len; omega)
 have mz := zc7 (s := z.1) (e := z.2.2) hz.dg (by have := hz.len; omega)
 unfold zj.f
 by_cases hw : a < 2 * sg f ∧ b < 2 * sg f
 rotate_left
 ·have e0 : zaj f [(a, b)] = 6 := by unfold zaj; rw [if_neg (fun hh => hw (hh (a, b) (by simp)))]
  rw [e0] at ho
  unfold zX
  rw [if_pos hw]
  exact Ev.bind ho (zd (by simp) (zd (by simp) (Ev.now _)))
 have e0 : zaj f [(a, b)] = if zy f a b then 0 else 7 := by
  unfold zaj
  rw [if_pos (fun p hp => by rw [List.mem_singleton.1 hp]; exact hw)]
  by_cases c : zy f a b
  ·rw [if_pos c, if_pos (fun p hp => by rw [List.mem_singleton.1 hp]; exact c)]
  ·rw [if_neg c, if_neg (fun hh => c (hh (a, b) (by simp)))]
 have tail : Ev (fun k => (zt.f x.1 x.2.1 x.2.2).bind fun t133 => if (!t133) = true then zj.j2 k x.1 x.2.1 x.2.2 y.1 y.2.1 y.2.2 z.1 z.2.1 z.2.2 (zaj f [(a, b)]) true else (zt.f y.1 y.2.1 y.2.2).bind fun t134 => if (!t134) = true then zj.j2 k x.1 x.2.1 x.2.2 y.1 y.2.1 y.2.2 z.1 z.2.1 z.2.2 (zaj f [(a, b)]) true else (zt.f z.1 z.2.1 z.2.2).bind fun t135 => if (!t135) = true then zj.j2 k x.1 x.2.1 x.2.2 y.1 y.2.1 y.2.2 z.1 z.2.1 z.2.2 (zaj f [(a, b)]) true else zj.j2 k x.1 x.2.1 x.2.2 y.1 y.2.1 y.2.2 z.1 z.2.1 z.2.2 (zaj f [(a, b)]) (decide (kk < 0))) (zX f a b kk x y z) := by
  refine zh mx ?_
  by_cases c1 : zi x = true
  rotate_left
  ·exact zd (by unfold zi at c1; simpa using c1) (zcv true ⟨fun _ hh => c1 hh.1, fun _ => rfl⟩ e0 hw)
  refine ze (by unfold zi at c1; simpa using c1) (zh my ?_)
  by_cases c2 : zi y = true
  rotate_left
  ·exact zd (by unfold zi at c2; simpa using c2) (zcv true ⟨fun _ hh => c2 hh.2.1, fun _ => rfl⟩ e0 hw)
  refine ze (by unfold zi at c2; simpa using c2) (zh mz ?_)
  by_cases c3 : zi z = true
  rotate_left
  ·exact zd (by unfold zi at c3; simpa using c3) (zcv true ⟨fun _ hh => c3 hh.2.2.1, fun _ => rfl⟩ e0 hw)
  refine ze (by unfold zi at c3; simpa using c3) (zcv _ ?_ e0 hw)
  rw [decide_eq_true_iff]
  exact ⟨fun hh hm => by have := hm.2.2.2; omega, fun hh => by
   refine Classical.byContradiction fun hk => hh ⟨c1, c2, c3, by omega⟩⟩
 refine Ev.bind ho ?_
 by_cases c : zy f a b
 ·have e1 : zaj f [(a, b)] = 0 := by rw [e0, if_pos c]
  exact ze (fun hh => hh e1) tail
 ·have e1 : zaj f [(a, b)] = 7 := by rw [e0, if_neg c]
  exact zd (fun hh => by omega) (ze (fun hh => hh e1) tail)
theorem zhy (x y z : Bool × List Int × Int) : Ev (fun k => zac.f k [x, y, z]) (decide (zo x ∧ zo y ∧ zo z)) := by
 have w0 : wrap64 (0 + 1) = 1 := by unfold wrap64; omega
 have w1 : wrap64 (1 + 1) = 2 := by unfold wrap64; omega
 have w2 : wrap64 (2 + 1) = 3 := by unfold wrap64; omega
 have el : (([x, y, z] : List (Bool × List Int × Int)).length : Int) = 3 := rfl
 have r0 : rdT [.b, .is .u32, .i .i64] [x, y, z] 0 = x := rfl
 have r1 : rdT [.b, .is .u32, .i .i64] [x, y, z] 1 = y := rfl
 have r2 : rdT [.b, .is .u32, .i .i64] [x, y, z] 2 = z := rfl
 have bad : ∀ {d : Bool × List Int × Int} {i : Int} {g : Nat → Option Bool}, 0 ≤ i → i < 3 → ¬ zo d → Ev (fun k => if i < 3 then (if 0 ≤ i then (if i < 3 then (if (d.2.1.length : Int) > 400 then some false else if 0 ≤ i then (if i < 3 then (if d.2.2 < -20000 then some false else if 0 ≤ i then (if i < 3 then (if d.2.2 > 20000 then some false else g k) else none) else none) else none) else none) else none) else none) else some true) false := by
  intro d i g h0 h3 hd
  refine zd h3 (zd h0 (zd h3 ?_))
  by_cases c1 : (d.2.1.length : Int) > 400
  ·exact zd c1 (Ev.now _)
  by_cases c2 : d.2.2 < -20000
  ·exact ze c1 (zd h0 (zd h3 (zd c2 (Ev.now _))))
  by_cases c3 : d.2.2 > 20000
  ·exact ze c1 (zd h0 (zd h3 (ze c2 (zd h0 (zd h3 (zd c3 (Ev.now _)))))))
  exact absurd (⟨by omega, by omega, by omega⟩ : zo d) hd
 have good : ∀ {d : Bool × List Int × Int} {i : Int} {g : Nat → Option Bool} {r : Bool}, 0 ≤ i → i < 3 → zo d → Ev g r → Ev (fun k => if i < 3 then (if 0 ≤ i then (if i < 3 then (if (d.2.1.length : Int) > 400 then some false else if 0 ≤ i then (if i < 3 then (if d.2.2 < -20000 then some false else if 0 ≤ i then (if i < 3 then (if d.2.2 > 20000 then some false else g k) else none) else none) else none) else none) else none) else none) else some true) r := by
  intro d i g r h0 h3 hd hg
  obtain ⟨h1, h2, h4⟩ := hd
  exact zd h3 (zd h0 (zd h3 (ze (by omega) (zd h0 (zd h3 (ze (by omega) (zd h0 (zd h3 (ze (by omega) hg)))))))))
 unfold zac.f
 refine zf ?_; simp only [zac.l0]
 rw [el, r0, w0]
 by_cases hx : zo x
 rotate_left
 ·rw [decide_eq_false (fun hh => hx hh.1)]; exact bad (by omega) (by omega) hx
 refine good (by omega) (by omega) hx ?_
 refine zf ?_; simp only [zac.l0]
 rw [el, r1, w1]
 by_cases hy : zo y
 rotate_left
 ·rw [decide_eq_false (fun hh => hy hh.2.1)]; exact bad (by omega) (by omega) hy
 refine good (by omega) (by omega) hy ?_
 refine zf ?_; simp only [zac.l0]
 rw [el, r2, w2]
 by_cases hz : zo z
 rotate_left
 ·rw [decide_eq_false (fun hh => hz hh.2.2)]; exact bad (by omega) (by omega) hz
 refine good (by omega) (by omega) hz ?_
 rw [decide_eq_true ⟨hx, hy, hz⟩]
 refine zf ?_; simp only [zac.l0]
 rw [el]
 exact ze (by omega) (Ev.now _)
theorem zg6 {f : Int} (h : isF f) {a b : Nat} (ha : a < 18446744073709551616) (hb : b < 18446744073709551616) (kk : Int) {x y z : Bool × List Int × Int} (hx : In x) (hy : In y) (hz : In z) :
  Ev (fun k => zaX.f k f (a : Int) (b : Int) x.1 x.2.1 x.2.2 y.1 y.2.1 y.2.2 z.1 z.2.1 z.2.2 kk) (zX f a b kk x y z) := by
 have hg := zhx h [(a, b)] (by simp) (fun p hp => by rw [List.mem_singleton.1 hp]; exact ⟨ha, hb⟩)
 have mx := zdo (s := x.1) (e := x.2.2) hx.dg (by have := hx.len; omega)
 have my := zdo (s := y.1) (e := y.2.2) hy.dg (by have := hy.len; omega)
 have mz := zdo (s := z.1) (e := z.2.2) hz.dg (by have := hz.len; omega)
 unfold zaX.f zX
 by_cases hw : a < 2 * sg f ∧ b < 2 * sg f
 rotate_left
 ·rw [if_neg (fun hh => hw (hh (a, b) (by simp)))] at hg
  rw [if_pos hw]
  exact Ev.bind hg (zd (by simp) (Ev.now _))
 rw [if_pos (fun p hp => by rw [List.mem_singleton.1 hp]; exact hw)] at hg
 rw [if_neg (fun hh => hh hw)]
 refine Ev.bind hg (ze (by simp) (zh mx ?_))
 by_cases c1 : zi x = true
 rotate_left
 ·rw [if_pos (fun hh => c1 hh.1)]
  exact zd (by unfold zi at c1; simpa using c1) (Ev.now _)
 refine ze (by unfold zi at c1; simpa using c1) (zh my ?_)
 by_cases c2 : zi y = true
 rotate_left
 ·rw [if_pos (fun hh => c2 hh.2.1)]
  exact zd (by unfold zi at c2; simpa using c2) (Ev.now _)
 refine ze (by unfold zi at c2; simpa using c2) (zh mz ?_)
 by_cases c3 : zi z = true
 rotate_left
 ·rw [if_pos (fun hh => c3 hh.2.2.1)]
  exact zd (by unfold zi at c3; simpa using c3) (Ev.now _)
 refine ze (by unfold zi at c3; simpa using c3) ?_
 by_cases c4 : kk < 0
 ·rw [if_pos (fun hh => by have := hh.2.2.2; omega)]
  exact zd c4 (Ev.now _)
 rw [if_neg (fun hh => hh ⟨c1, c2, c3, by omega⟩)]
 have hzm := zdg c3
 refine ze c4 (zh (zhr hzm.dy) ?_)
 by_cases c5 : z.2.1 = []
 ·rw [if_pos c5]
  exact zd ((zcN hzm.dy).2 c5) (Ev.now _)
 rw [if_neg c5]
 refine ze (fun hh => c5 ((zcN hzm.dy).1 hh)) (zh (zhv h a b) ?_)
 by_cases c6 : zy f a b
 rotate_left
 ·rw [if_pos c6]
  exact zd (by simpa using c6) (Ev.now _)
 rw [if_neg (fun hh => hh c6)]
 refine ze (by simpa using c6) (Ev.bind (zhy x y z) ?_)
 by_cases c7 : zo x ∧ zo y ∧ zo z
 ·rw [if_pos c7, decide_eq_true c7]
  exact ze (by simp) (Ev.now _)
 ·rw [if_neg c7, decide_eq_false c7]
  exact zd rfl (Ev.now _)
theorem zg5 {f : Int} (h : ¬ isF f) (a b : Int) (kk : Int) (x y z : Bool × List Int × Int) : Ev (fun k => zaX.f k f a b x.1 x.2.1 x.2.2 y.1 y.2.1 y.2.2 z.1 z.2.1 z.2.2 kk) 4 := by
 unfold zaX.f
 exact Ev.bind (zhw h _) (zd (by simp) (Ev.now _))
def mkN (p : Int × Int) : Bool × List Int × Int := mk p.1 p.2
def zr (p q : Int × Int) : Int × Int := (p.1 * q.1, p.2 + q.2)
def zap (p q : Int × Int) : Int × Int := (zbf p.1 p.2 q.1 q.2, min p.2 q.2)
def zaD (p : Int × Int) : Int × Int := (-p.1, p.2)
def nsh (p : Int × Int) (n : Int) : Int × Int := (p.1, p.2 + n)
def vN (f : Int) (w : Nat) : Int × Int := (zv f w, wex f w)
structure Wx (L H : Int) (p : Int × Int) : Prop where
 lo : L ≤ p.2
 hi : p.2 + (bl p.1.natAbs : Nat) ≤ H
theorem Wx.wg {L H : Int} {p : Int × Int} (h : Wx L H p) : Wg L H p.1 p.2 := ⟨fun _ => h.lo, fun _ => h.hi⟩
theorem Wx.mono {L H L' H' : Int} {p : Int × Int} (h : Wx L H p) (h1 : L' ≤ L) (h2 : H ≤ H') : Wx L' H' p := ⟨Int.le_trans h1 h.lo, Int.le_trans h.hi h2⟩
theorem Wx.mul {L H L' H' : Int} {p q : Int × Int} (h : Wx L H p) (k : Wx L' H' q) : Wx (L + L') (H + H') (zr p q) := by
 have h1 := h.lo
 have h2 := h.hi
 have h3 := k.lo
 have h4 := k.hi
 have h5 := zd6 p.1 q.1
 refine ⟨?_, ?_⟩
 ·show _ ≤ p.2 + q.2; omega
 ·show p.2 + q.2 + (bl (p.1 * q.1).natAbs : Nat) ≤ _; omega
theorem Wx.add {L H : Int} {p q : Int × Int} (h : Wx L H p) (k : Wx L H q) : Wx L (H + 1) (zap p q) := by
 have h1 := h.lo
 have h2 := h.hi
 have h3 := k.lo
 have h4 := k.hi
 have h5 := zfV p.1 p.2 q.1 q.2 (n := (H - min p.2 q.2).toNat) (by omega) (by omega)
 refine ⟨?_, ?_⟩
 ·show _ ≤ min p.2 q.2; omega
 ·show min p.2 q.2 + (bl (zbf p.1 p.2 q.1 q.2).natAbs : Nat) ≤ _; omega
theorem Wx.neg {L H : Int} {p : Int × Int} (h : Wx L H p) : Wx L H (zaD p) := ⟨h.lo, by show p.2 + (bl (-p.1).natAbs : Nat) ≤ H; rw [Int.natAbs_neg]; exact h.hi⟩
theorem Wx.sh {L H : Int} {p : Int × Int} (h : Wx L H p) (n : Int) : Wx (L + n) (H + n) (nsh p n) := by
 have h1 := h.lo
 have h2 := h.hi
 exact ⟨by show _ ≤ p.2 + n; omega, by show p.2 + n + (bl p.1.natAbs : Nat) ≤ _; omega⟩
theorem Wx.rg {L H : Int} {p : Int × Int} (h : Wx L H p) (h1 : -1000000 ≤ L) (h2 : H ≤ 1000000) : Rg p.1 p.2 := by
 have h3 := h.lo
 have h4 := h.hi
 exact ⟨by omega, by omega, by omega⟩
theorem Wx.my {L H : Int} {p : Int × Int} (h : Wx L H p) (h1 : -1000000 ≤ L) (h2 : H ≤ 1000000) (h3 : H - L ≤ 130000) : My (mkN p).1 (mkN p).2.1 (mkN p).2.2 := by
 have h4 := h.lo
 have h5 := h.hi
 exact zdi (by omega) (by omega) (by omega)
theorem zbA {f : Int} (h : isF f) (w : Nat) : Wx (-1074) 3064 (vN f w) := by
 have h1 := zhZ h w
 obtain ⟨a, b, c⟩ := h1
 exact ⟨b, by show wex f w + (bl (zv f w).natAbs : Nat) ≤ 3064; omega⟩
theorem zce {L H L' H' : Int} {p q : Int × Int} (h : Wx L H p) (k : Wx L' H' q) (h1 : -1000000 ≤ L) (h2 : H ≤ 1000000) (h3 : -1000000 ≤ L') (h4 : H' ≤ 1000000) (h5 : H - L + (H' - L') ≤ 131000) :
  Ev (fun k => zaf.f k (mkN p).1 (mkN p).2.1 (mkN p).2.2 (mkN q).1 (mkN q).2.1 (mkN q).2.2) (mkN (zr p q)) := by
 have a1 := h.lo
 have a2 := h.hi
 have b1 := k.lo
 have b2 := k.hi
 unfold zaf.f
 exact Ev.bind (zhc (by omega) (by omega) (by omega) (by omega) (by omega)) (Ev.now _)
theorem zgq {L H : Int} (w : Wk L H) {p q : Int × Int} (h : Wx L H p) (k : Wx L H q) :
  Ev (fun k => zbT.f k (mkN p).1 (mkN p).2.1 (mkN p).2.2 (mkN q).1 (mkN q).2.1 (mkN q).2.2) (mkN (zap p q)) := by
 unfold zbT.f
 exact Ev.bind (zhT w h.wg k.wg) (Ev.now _)
theorem zgv {L H : Int} (w : Wk L H) {p q : Int × Int} (h : Wx L H p) (k : Wx L H q) :
  Ev (fun k => za7.f k (mkN p).1 (mkN p).2.1 (mkN p).2.2 (mkN q).1 (mkN q).2.1 (mkN q).2.2) (mkN (zap p (zaD q))) := by
 unfold za7.f
 exact Ev.bind (zhV w h.wg k.wg) (Ev.now _)
def sqN (p q : Int × Int) : Int × Int := zap (zr p p) (zr q q)
theorem zet {L H : Int} (h1 : -100000 ≤ L) (h2 : H ≤ 100000) (h3 : H - L ≤ 65000) {p q : Int × Int} (h : Wx L H p) (k : Wx L H q) :
  Ev (fun k => zbs.f k (mkN p).1 (mkN p).2.1 (mkN p).2.2 (mkN q).1 (mkN q).2.1 (mkN q).2.2) (mkN (sqN p q)) := by
 unfold zbs.f
 refine Ev.bind (zce h h (by omega) (by omega) (by omega) (by omega) (by omega)) (Ev.bind (zce k k (by omega) (by omega) (by omega) (by omega) (by omega)) (Ev.bind (zgq ⟨by omega, by omega, by omega⟩ (h.mul h) (k.mul k)) (Ev.now _)))
theorem zdt {L H : Int} {p q : Int × Int} (h : Wx L H p) (k : Wx L H q) : Wx (L + L) (H + H + 1) (sqN p q) := (h.mul h).add (k.mul k)
theorem zhd {f : Int} (h : isF f) : zcd.f f = some ((fb f + 1 : Nat) : Int) := by rcases h with rfl | rfl <;> rfl
def zQ (f : Int) (a b : Nat) (re im den : Int × Int) : Int × Int := nsh (sqN (zap (zr (vN f a) den) (zaD re)) (zap (zr (vN f b) den) (zaD im))) (2 * ((fb f + 1 : Nat) : Int))
def Gz (p : Int × Int) : Prop := Wx (-20000) 32800 p
theorem zcB {f : Int} (h : isF f) (a : Nat) {re den : Int × Int} (hr : Gz re) (hd : Gz den) : Wx (-21074) 35865 (zap (zr (vN f a) den) (zaD re)) := by
 have h1 := ((zbA h a).mul hd).mono (L' := -21074) (H' := 35864) (by omega) (by omega)
 exact (h1.add (hr.neg.mono (by omega) (by omega))).mono (by omega) (by omega)
theorem zeo {f : Int} (h : isF f) : 23 ≤ fb f ∧ fb f ≤ 52 := by rcases h with rfl | rfl <;> decide
theorem zem {f : Int} (h : isF f) (a b : Nat) {re im den : Int × Int} (hr : Gz re) (hi : Gz im) (hd : Gz den) : Wx (-42148) 71900 (zQ f a b re im den) := by
 have h1 := ((zdt (zcB h a hr hd) (zcB h b hi hd)).sh (2 * ((fb f + 1 : Nat) : Int)))
 have h2 := zeo h
 exact h1.mono (by omega) (by omega)
theorem zen {re im : Int × Int} (hr : Gz re) (hi : Gz im) : Wx (-40000) 65601 (sqN re im) := (zdt hr hi).mono (by omega) (by omega)
theorem zgu {L H : Int} {p : Int × Int} (h : Wx L H p) (h1 : -1000000 ≤ L) (h2 : H ≤ 1000000) (h3 : H - L ≤ 130000) {n : Int} (h4 : -1000 ≤ n) (h5 : n ≤ 1000) : za4.f (mkN p).1 (mkN p).2.1 (mkN p).2.2 n = some (ok3 (mkN (nsh p n))) := by
 have a1 := h.lo
 have a2 := h.hi
 have ms := zaR p.1 p.2
 have e0 : (mkN p).2.2 = me p.1 p.2 := rfl
 rw [zgf (h.my h1 h2 h3) (by omega) (by omega) (by omega)]
 have e3 : mk (mz p.1 p.2) (me p.1 p.2 + n) = mkN (nsh p n) := zgP (zgO p.1 p.2)
 rw [← e3]; rfl
theorem zeq {f : Int} (h : isF f) (a : Nat) {re den : Int × Int} (hr : Gz re) (hd : Gz den) {β : Type} {F : Nat → Bool × List Int × Int → Option β} {r : β} (k : Ev (fun n => F n (mkN (zap (zr (vN f a) den) (zaD re)))) r) :
  Ev (fun k => (zaf.f k (mkN (vN f a)).1 (mkN (vN f a)).2.1 (mkN (vN f a)).2.2 (mkN den).1 (mkN den).2.1 (mkN den).2.2).bind fun t => (za7.f k t.1 t.2.1 t.2.2 (mkN re).1 (mkN re).2.1 (mkN re).2.2).bind fun u => F k u) r := by
 have m1 := ((zbA h a).mul hd).mono (L' := -21074) (H' := 35864) (by omega) (by omega)
 have g1 := zce (zbA h a) hd (by omega) (by omega) (by omega) (by omega) (by omega)
 have g2 := zgv (L := -21074) (H := 35864) ⟨by omega, by omega, by omega⟩ m1 (hr.mono (by omega) (by omega))
 exact Ev.bind g1 (Ev.bind g2 k)
theorem zgr {f : Int} (h : isF f) {a b : Nat} (ha : a < 2 * sg f) (hb : b < 2 * sg f) (hf : zy f a b) : Ev (fun k => zbr.f k f (a : Int) (b : Int)) ((mkN (vN f a)).1, (mkN (vN f a)).2.1, (mkN (vN f a)).2.2, (mkN (vN f b)).1, (mkN (vN f b)).2.1, (mkN (vN f b)).2.2) := zgs h ha hb hf
theorem zep {f : Int} (h : isF f) {a b : Nat} (ha : a < 2 * sg f) (hb : b < 2 * sg f) (hf : zy f a b) {re im den : Int × Int} (hr : Gz re) (hi : Gz im) (hd : Gz den) :
  Ev (fun k => za6.f k f (a : Int) (b : Int) (mkN re).1 (mkN re).2.1 (mkN re).2.2 (mkN im).1 (mkN im).2.1 (mkN im).2.2 (mkN den).1 (mkN den).2.1 (mkN den).2.2) ((mkN (zQ f a b re im den)).1, (mkN (zQ f a b re im den)).2.1, (mkN (zQ f a b re im den)).2.2, (mkN (sqN re im)).1, (mkN (sqN re im)).2.1, (mkN (sqN re im)).2.2) := by
 have p1 := zcB h a hr hd
 have p2 := zcB h b hi hd
 have hF := zeo h
 have s0 := zdt p1 p2
 have g1 := zet (by omega) (by omega) (by omega) p1 p2
 have g2 := zet (L := -20000) (H := 32800) (by omega) (by omega) (by omega) hr hi
 have g3 : za4.f _ _ _ _ = some (ok3 (mkN (zQ f a b re im den))) := zgu s0 (by omega) (by omega) (by omega) (n := 2 * ((fb f + 1 : Nat) : Int)) (by omega) (by omega)
 generalize zQ f a b re im den = A at g3 ⊢
 have e2 : wrap64 (2 * ((fb f + 1 : Nat) : Int)) = 2 * ((fb f + 1 : Nat) : Int) := by unfold wrap64; omega
 unfold za6.f
 refine Ev.bind (zgr h ha hb hf) ?_
 dsimp only
 refine zeq h a hr hd (zeq h b hi hd (Ev.bind g1 (zh (zhd h) ?_)))
 rw [e2]
 refine zh g3 (Ev.bind g2 (zg (Ev.now _) ?_))
 simp only [ok3]
theorem ze1 {p q : Int × Int} (h : Rg p.1 p.2) (k : Rg q.1 q.2) : Ev (fun k => zaO.f k (mkN p).1 (mkN p).2.1 (mkN p).2.2 (mkN q).1 (mkN q).2.1 (mkN q).2.2) (mkN (zr p q)) := zhg h k
theorem zeV {f : Int} (h : isF f) (w : Nat) : Ev (fun k => za3.f k f (w : Int)) (mkN (vN f w)) := zhi h w
theorem zdd {d : Bool × List Int × Int} (hm : zi d = true) (hs : zo d) : ∃ p, d = mkN p ∧ Gz p ∧ (p.1 = 0 ↔ d.2.1 = []) := by
 have hy := zdg hm
 obtain ⟨h1, h2, h3⟩ := hs
 have hb := zbG hy.dy.nm.dg
 refine ⟨(sv d.1 (V d.2.1), d.2.2), (zdh hy.dy).symm, ⟨h2, ?_⟩, ?_⟩
 ·show d.2.2 + (bl (sv d.1 (V d.2.1)).natAbs : Nat) ≤ 32800
  rw [zaU]; omega
 ·show sv d.1 (V d.2.1) = 0 ↔ _
  rw [zbz]
  constructor
  ·intro h0
   by_cases c : d.2.1 = []
   ·exact c
   ·have := hy.dy.odd c; omega
  ·intro c; rw [c]; rfl
theorem zfN {f : Int} {a b : Nat} {k : Int} {x y z : Bool × List Int × Int} (h : zX f a b k x y z = 0) :
  (a < 2 * sg f ∧ b < 2 * sg f) ∧ zy f a b ∧ 0 ≤ k ∧ ∃ p q r, x = mkN p ∧ y = mkN q ∧ z = mkN r ∧ Gz p ∧ Gz q ∧ Gz r ∧ r.1 ≠ 0 := by
 unfold zX at h
 by_cases c1 : a < 2 * sg f ∧ b < 2 * sg f
 rotate_left; · rw [if_pos c1] at h; cases h
 rw [if_neg (fun hh => hh c1)] at h
 by_cases c2 : zi x = true ∧ zi y = true ∧ zi z = true ∧ 0 ≤ k
 rotate_left; · rw [if_pos c2] at h; cases h
 rw [if_neg (fun hh => hh c2)] at h
 by_cases c3 : z.2.1 = []
 ·rw [if_pos c3] at h; cases h
 rw [if_neg c3] at h
 by_cases c4 : zy f a b
 rotate_left; · rw [if_pos c4] at h; cases h
 rw [if_neg (fun hh => hh c4)] at h
 by_cases c5 : zo x ∧ zo y ∧ zo z
 rotate_left; · rw [if_neg c5] at h; cases h
 obtain ⟨p, p1, p2, _⟩ := zdd c2.1 c5.1
 obtain ⟨q, q1, q2, _⟩ := zdd c2.2.1 c5.2.1
 obtain ⟨r, r1, r2, r3⟩ := zdd c2.2.2.1 c5.2.2
 exact ⟨c1, c4, c2.2.2.2, p, q, r, p1, q1, r1, p2, q2, r2, fun hh => c3 (r3.1 hh)⟩
theorem zgG {x y z : Bool × List Int × Int} (hx : x.2.1.length ≤ 140737488355328) (hy : y.2.1.length ≤ 140737488355328) (hz : z.2.1.length ≤ 140737488355328) : zbK.f x.1 x.2.1 x.2.2 y.1 y.2.1 y.2.2 z.1 z.2.1 z.2.2 = some (decide (x.2.1.length + y.2.1.length + z.2.1.length > 1300)) := by
 unfold zbK.f
 have e1 : wrap64 ((x.2.1.length : Int) + (y.2.1.length : Int)) = ((x.2.1.length + y.2.1.length : Nat) : Int) := by unfold wrap64; omega
 have e2 : wrap64 (((x.2.1.length + y.2.1.length : Nat) : Int) + (z.2.1.length : Int)) = ((x.2.1.length + y.2.1.length + z.2.1.length : Nat) : Int) := by unfold wrap64; omega
 rw [e1, e2]
 clear e1 e2
 congr 1
 exact decide_eq_decide.2 (by omega)
theorem zbF {z : Int} (h : 0 ≤ z) (e m : Int) : 0 ≤ al z e m := by
 unfold al
 exact Int.mul_nonneg h (Int.le_of_lt (zdm _))
theorem zc0 {z e m : Int} (h : al z e m = 0) : z = 0 := by
 unfold al at h
 have hp := zdm (e - m).toNat
 rcases Int.mul_eq_zero.1 h with h | h
 ·exact h
 ·omega
theorem zcO (x : Int) : 0 ≤ x * x := by
 rcases Int.le_total 0 x with h | h
 ·exact Int.mul_nonneg h h
 ·have := Int.mul_nonneg (show 0 ≤ -x by omega) (show 0 ≤ -x by omega)
  rwa [Int.neg_mul_neg] at this
theorem zfa (p q : Int × Int) : 0 ≤ (sqN p q).1 := by
 show 0 ≤ zbf (p.1 * p.1) (p.2 + p.2) (q.1 * q.1) (q.2 + q.2)
 unfold zbf
 have h1 := zbF (zcO p.1) (p.2 + p.2) (min (p.2 + p.2) (q.2 + q.2))
 have h2 := zbF (zcO q.1) (q.2 + q.2) (min (p.2 + p.2) (q.2 + q.2))
 omega
theorem zhE {p q : Int × Int} (h : (sqN p q).1 = 0) : p.1 = 0 ∧ q.1 = 0 := by
 have h : zbf (p.1 * p.1) (p.2 + p.2) (q.1 * q.1) (q.2 + q.2) = 0 := h
 unfold zbf at h
 have h1 := zbF (zcO p.1) (p.2 + p.2) (min (p.2 + p.2) (q.2 + q.2))
 have h2 := zbF (zcO q.1) (q.2 + q.2) (min (p.2 + p.2) (q.2 + q.2))
 have h3 := zc0 (show al (p.1 * p.1) (p.2 + p.2) (min (p.2 + p.2) (q.2 + q.2)) = 0 by omega)
 have h4 := zc0 (show al (q.1 * q.1) (q.2 + q.2) (min (p.2 + p.2) (q.2 + q.2)) = 0 by omega)
 exact ⟨(Int.mul_eq_zero.1 h3).elim id id, (Int.mul_eq_zero.1 h4).elim id id⟩
def nnB (n : Nat) (B : Int × Int) : Int × Int := zr (zr ((n : Int), 0) ((n : Int), 0)) B
def z4 (A B : Int × Int) (n : Nat) : Bool := decide (zm A.1 A.2 (nnB n B).1 (nnB n B).2 ≤ 0)
def alA (A B : Int × Int) : Int := al A.1 A.2 (min A.2 B.2)
def alB (A B : Int × Int) : Int := al B.1 B.2 (min A.2 B.2)
theorem zeu (A B : Int × Int) (n : Nat) : z4 A B n = true ↔ alA A B ≤ (n : Int) * (n : Int) * alB A B := by
 have e2 : (nnB n B).2 = B.2 := by show (0 : Int) + 0 + B.2 = B.2; omega
 have e1 : al (nnB n B).1 B.2 (min A.2 B.2) = (n : Int) * (n : Int) * alB A B := by
  show al ((n : Int) * (n : Int) * B.1) B.2 _ = _
  unfold alB al
  rw [Int.mul_assoc]
 unfold z4
 rw [decide_eq_true_iff, e2]
 unfold zm
 rw [e1]
 show (alA A B - _).sign ≤ 0 ↔ _
 rcases zaJ (alA A B - (n : Int) * (n : Int) * alB A B) with ⟨h1, h2⟩ | ⟨h1, h2⟩ | ⟨h1, h2⟩
 ·rw [h2]; omega
 ·rw [h2]; omega
 ·rw [h2]; omega
theorem zgx {A B : Int × Int} (hB : 0 ≤ B.1) {n m : Nat} (h : n ≤ m) (hn : z4 A B n = true) : z4 A B m = true := by
 rw [zeu] at hn ⊢
 have hb : 0 ≤ alB A B := zbF hB _ _
 have h1 : (n : Int) * (n : Int) ≤ (m : Int) * (m : Int) := by
  have := Nat.mul_le_mul h h
  rw [← Int.natCast_mul, ← Int.natCast_mul]
  omega
 exact Int.le_trans hn (Int.mul_le_mul_of_nonneg_right h1 hb)
theorem zdk {n : Nat} (h : n < 18446744073709551616) : Wx 0 64 ((n : Int), 0) := by
 have h1 : bl n ≤ 64 := zaa (by omega)
 exact ⟨Int.le_refl _, by show (0 : Int) + (bl (n : Int).natAbs : Nat) ≤ 64; rw [Int.natAbs_natCast]; omega⟩
theorem zg3 {n : Nat} (h : n < 18446744073709551616) {B : Int × Int} (hB : Wx (-40000) 65601 B) : Wx (-40000) 65729 (nnB n B) :=
 (((zdk h).mul (zdk h)).mul hB).mono (by omega) (by omega)
theorem zdc {A B : Int × Int} (hA : Wx (-42148) 71900 A) (hB : Wx (-40000) 65601 B) {n : Nat} (h : n < 18446744073709551616) :
  Ev (fun k => zaQ.f k (mkN A).1 (mkN A).2.1 (mkN A).2.2 (mkN B).1 (mkN B).2.1 (mkN B).2.2 (n : Int)) (z4 A B n) := by
 have o1 := zdj (n := (n : Int)) (by omega) (by omega)
 rw [Int.toNat_natCast] at o1
 have h1 : bl n ≤ 64 := zaa (by omega)
 have m1 := zbn false (zC n) (z5 (by omega)) 0
 rw [V_D, zbu (by omega) (by omega)] at m1
 have w1 := zdk h
 have g1 := zce w1 w1 (by omega) (by omega) (by omega) (by omega) (by omega)
 have g2 := zce (w1.mul w1) hB (by omega) (by omega) (by omega) (by omega) (by omega)
 have c1 := zhU (L := -42148) (H := 71900) ⟨by omega, by omega, by omega⟩ hA.wg ((zg3 h hB).mono (by omega) (by omega)).wg
 unfold zaQ.f
 exact Ev.bind o1 (Ev.bind m1 (Ev.bind g1 (Ev.bind g2 (Ev.bind c1 (Ev.now _)))))
def Lst (A B : Int × Int) (r : Nat) : Prop := r ≤ 4294967295 ∧ z4 A B r = true ∧ ∀ n, n < r → z4 A B n = false
theorem zdw {A B : Int × Int} (hA : Wx (-42148) 71900 A) (hB : Wx (-40000) 65601 B) (h0 : 0 ≤ B.1) : ∀ (d low high : Nat), high - low ≤ d → low ≤ high → high ≤ 4294967295 → z4 A B high = true → (∀ n, n < low → z4 A B n = false) →
  ∃ r : Nat, Lst A B r ∧ Ev (fun k => zE.l0 k (mkN A).1 (mkN A).2.1 (mkN A).2.2 (mkN B).1 (mkN B).2.1 (mkN B).2.2 (low : Int) (high : Int)) ((r : Int), 0)
 | 0, low, high, hd, hl, hh, hi, hn => by
  have : low = high := by omega
  subst this
  refine ⟨low, ⟨hh, hi, hn⟩, ?_⟩
  refine zf ?_; simp only [zE.l0]
  exact ze (by omega) (Ev.now _)
 | d + 1, low, high, hd, hl, hh, hi, hn => by
  by_cases c : low = high
  ·subst c
   refine ⟨low, ⟨hh, hi, hn⟩, ?_⟩
   refine zf ?_; simp only [zE.l0]
   exact ze (by omega) (Ev.now _)
  have e1 : IntKind.u64.wrap ((low : Int) + (high : Int)) = ((low + high : Nat) : Int) := by rw [zay]; omega
  have e2 : IntKind.u64.wrap (Int.tdiv ((low + high : Nat) : Int) 2) = (((low + high) / 2 : Nat) : Int) := by
   rw [Int.tdiv_eq_ediv_of_nonneg (by omega), zay]; omega
  have e3 : IntKind.u64.wrap ((((low + high) / 2 : Nat) : Int) + 1) = (((low + high) / 2 + 1 : Nat) : Int) := by rw [zay]; omega
  have gi := zdc hA hB (n := (low + high) / 2) (by omega)
  cases hm : z4 A B ((low + high) / 2) with
  | true =>
   rw [hm] at gi
   obtain ⟨r, hr, he⟩ := zdw hA hB h0 d low ((low + high) / 2) (by omega) (by omega) (by omega) hm hn
   refine ⟨r, hr, ?_⟩
   refine zf ?_; simp only [zE.l0]
   rw [e1, e2, e3]
   clear e1 e2 e3
   exact zd (by omega) (Ev.bind gi (zd rfl he))
  | false =>
   rw [hm] at gi
   obtain ⟨r, hr, he⟩ := zdw hA hB h0 d ((low + high) / 2 + 1) high (by omega) (by omega) (by omega) hi (fun n hnl => by
    cases hx : z4 A B n with
    | false => rfl
    | true =>
     have := zgx h0 (show n ≤ (low + high) / 2 by omega) hx
     rw [hm] at this; cases this)
   refine ⟨r, hr, ?_⟩
   refine zf ?_; simp only [zE.l0]
   rw [e1, e2, e3]
   clear e1 e2 e3
   exact zd (by omega) (Ev.bind gi (ze (by simp) he))
theorem zdX {f : Int} {a b : Nat} {k : Int} (hk : 0 ≤ k) (x y z : Bool × List Int × Int) : zX f a b k x y z = zX f a b 0 x y z := by
 unfold zX
 have e : (zi x = true ∧ zi y = true ∧ zi z = true ∧ 0 ≤ k) ↔ (zi x = true ∧ zi y = true ∧ zi z = true ∧ (0 : Int) ≤ 0) := by
  constructor
  ·rintro ⟨h1, h2, h3, _⟩; exact ⟨h1, h2, h3, by omega⟩
  ·rintro ⟨h1, h2, h3, _⟩; exact ⟨h1, h2, h3, hk⟩
 simp only [e]
structure Ok (f : Int) (a b : Nat) (re im den : Int × Int) : Prop where
 hf : isF f
 wa : a < 2 * sg f
 wb : b < 2 * sg f
 fin : zy f a b
 gr : Gz re
 gi : Gz im
 gd : Gz den
 ne : den.1 ≠ 0
 ix : In (mkN re)
 iy : In (mkN im)
 iz : In (mkN den)
 ask : zX f a b 0 (mkN re) (mkN im) (mkN den) = 0
theorem zfM {f : Int} (h : isF f) {a b : Nat} {k : Int} {x y z : Bool × List Int × Int} (hx : In x) (hy : In y) (hz : In z) (h0 : zX f a b k x y z = 0) : 0 ≤ k ∧ ∃ re im den, x = mkN re ∧ y = mkN im ∧ z = mkN den ∧ Ok f a b re im den := by
 obtain ⟨h1, h2, h3, p, q, r, rfl, rfl, rfl, hp, hq, hr, hn⟩ := zfN h0
 rw [zdX h3] at h0
 exact ⟨h3, p, q, r, rfl, rfl, rfl, ⟨h, h1.1, h1.2, h2, hp, hq, hr, hn, hx, hy, hz, h0⟩⟩
theorem zdb {f : Int} {a b : Nat} {re im den : Int × Int} (o : Ok f a b re im den) {n : Nat} (hn : n < 9223372036854775808) :
  Ev (fun k => zaG.f k f (a : Int) (b : Int) (mkN re).1 (mkN re).2.1 (mkN re).2.2 (mkN im).1 (mkN im).2.1 (mkN im).2.2 (mkN den).1 (mkN den).2.1 (mkN den).2.2 (n : Int)) (z4 (zQ f a b re im den) (sqN re im) n, 0) := by
 have h1 := zdY o.hf a b (n : Int) o.ix o.iy o.iz
 rw [zdX (by omega), o.ask] at h1
 have e1 : IntKind.u64.wrap (n : Int) = (n : Int) := by rw [zay]; omega
 unfold zaG.f
 refine Ev.bind h1 (ze (fun hh => hh rfl) (Ev.bind (zep o.hf o.wa o.wb o.fin o.gr o.gi o.gd) ?_))
 rw [e1]
 clear e1
 exact Ev.bind (zdc (zem o.hf a b o.gr o.gi o.gd) (zen o.gr o.gi) (by omega)) (Ev.now _)
theorem zgp {f : Int} {a b : Nat} {re im den : Int × Int} (o : Ok f a b re im den) :
  (z4 (zQ f a b re im den) (sqN re im) 4294967295 = false ∧ Ev (fun k => zE.f k f (a : Int) (b : Int) (mkN re).1 (mkN re).2.1 (mkN re).2.2 (mkN im).1 (mkN im).2.1 (mkN im).2.2 (mkN den).1 (mkN den).2.1 (mkN den).2.2) (0, 20)) ∨
  (∃ r : Nat, Lst (zQ f a b re im den) (sqN re im) r ∧ Ev (fun k => zE.f k f (a : Int) (b : Int) (mkN re).1 (mkN re).2.1 (mkN re).2.2 (mkN im).1 (mkN im).2.1 (mkN im).2.2 (mkN den).1 (mkN den).2.1 (mkN den).2.2) ((r : Int), 0)) := by
 have h1 := zdY o.hf a b 0 o.ix o.iy o.iz
 rw [o.ask] at h1
 have hA := zem o.hf a b o.gr o.gi o.gd
 have hB := zen o.gr o.gi
 have h0 := zfa re im
 have gi := zdc hA hB (n := 4294967295) (by omega)
 have hg := zep o.hf o.wa o.wb o.fin o.gr o.gi o.gd
 cases hm : z4 (zQ f a b re im den) (sqN re im) 4294967295 with
 | false =>
  rw [hm] at gi
  refine .inl ⟨rfl, ?_⟩
  unfold zE.f
  exact Ev.bind h1 (ze (fun hh => hh rfl) (Ev.bind hg (Ev.bind gi (zd rfl (Ev.now _)))))
 | true =>
  rw [hm] at gi
  obtain ⟨r, hr, he⟩ := zdw hA hB h0 4294967295 0 4294967295 (by omega) (by omega) (by omega) hm (fun n hn => by omega)
  refine .inr ⟨r, hr, ?_⟩
  unfold zE.f
  exact Ev.bind h1 (ze (fun hh => hh rfl) (Ev.bind hg (Ev.bind gi (ze (by simp) he))))
theorem zgm {f : Int} {a b : Nat} {re im den : Int × Int} (h : z4 (zQ f a b re im den) (sqN re im) 0 = true) : mkN (zr (vN f a) den) = mkN re ∧ mkN (zr (vN f b) den) = mkN im := by
 rw [zeu] at h
 have e0 : (((0 : Nat) : Int)) * ((0 : Nat) : Int) * alB (zQ f a b re im den) (sqN re im) = 0 := by
  show (0 : Int) * 0 * _ = 0
  rw [Int.mul_zero, Int.zero_mul]
 rw [e0] at h
 have h1 : (zQ f a b re im den).1 = (sqN (zap (zr (vN f a) den) (zaD re)) (zap (zr (vN f b) den) (zaD im))).1 := rfl
 have h2 := zfa (zap (zr (vN f a) den) (zaD re)) (zap (zr (vN f b) den) (zaD im))
 rw [← h1] at h2
 have h3 : 0 ≤ alA (zQ f a b re im den) (sqN re im) := zbF h2 _ _
 have h4 := zc0 (show al (zQ f a b re im den).1 (zQ f a b re im den).2 (min (zQ f a b re im den).2 (sqN re im).2) = 0 from Int.le_antisymm h h3)
 rw [h1] at h4
 obtain ⟨h5, h6⟩ := zhE h4
 have part : ∀ {p q : Int × Int}, (zap p (zaD q)).1 = 0 → mkN p = mkN q := by
  intro p q hpq
  have hpq : al p.1 p.2 (min p.2 q.2) + al (-q.1) q.2 (min p.2 q.2) = 0 := hpq
  rw [zc1] at hpq
  exact (zgL (m := min p.2 q.2) (by omega) (by omega)).2 (by omega)
 exact ⟨part h5, part h6⟩
theorem zfA (f : Int) {a b : Nat} (ha : a < 18446744073709551616) (hb : b < 18446744073709551616) {x y z : Bool × List Int × Int} (dx : Dg x.2.1) (dy : Dg y.2.1) (dz : Dg z.2.1) (hx : x.2.1.length ≤ 140737488355328) (hy : y.2.1.length ≤ 140737488355328) (hz : z.2.1.length ≤ 140737488355328) :
  Ev (fun k => zbJ.f k f (a : Int) (b : Int) x.1 x.2.1 x.2.2 y.1 y.2.1 y.2.2 z.1 z.2.1 z.2.2) true := by
 unfold zbJ.f
 refine zh (zgG hx hy hz) ?_
 by_cases c : x.2.1.length + y.2.1.length + z.2.1.length > 1300
 ·exact zd (decide_eq_true c) (Ev.bind zbU (Ev.now _))
 refine ze (by simpa using c) ?_
 have ix : In x := ⟨dx, by omega⟩
 have iy : In y := ⟨dy, by omega⟩
 have iz : In z := ⟨dz, by omega⟩
 by_cases h : isF f
 rotate_left
 ·exact Ev.bind (zg5 h _ _ _ x y z) (zd (by simp) (Ev.bind zbU (Ev.now _)))
 have ho := zg6 h ha hb 0 ix iy iz
 by_cases h0 : zX f a b 0 x y z = 0
 rotate_left
 ·exact Ev.bind ho (zd h0 (Ev.bind zbU (Ev.now _)))
 obtain ⟨_, re, im, den, rfl, rfl, rfl, o⟩ := zfM h ix iy iz h0
 rw [h0] at ho
 refine Ev.bind ho (ze (fun hh => hh rfl) ?_)
 rcases zgp o with ⟨hm, hu⟩ | ⟨r, ⟨hr1, hr2, hr3⟩, hu⟩
 ·have hw := zdb o (n := 4294967295) (by omega)
  rw [hm] at hw
  exact Ev.bind hu (zd (by simp) (Ev.bind hw (zd rfl (zd rfl (zd rfl (Ev.bind zbU (Ev.now _)))))))
 ·have hw := zdb o (n := r) (by omega)
  rw [hr2] at hw
  have e1 : wrap64 (r : Int) = (r : Int) := by unfold wrap64; omega
  refine Ev.bind hu (ze (by simp) ?_)
  dsimp only
  rw [e1]
  clear e1
  refine Ev.bind hw (ze (by simp) (ze (by simp) ?_))
  by_cases c0 : r = 0
  ·subst c0
   obtain ⟨f1, f2⟩ := zgm hr2
   have va := (zbA h a).rg (by omega) (by omega)
   have vb := (zbA h b).rg (by omega) (by omega)
   have rd := o.gd.rg (by omega) (by omega)
   have s1 := zeT (zr (vN f a) den).1 (zr (vN f a) den).2 re.1 re.2 (by
    have w := (zbA h a).mul o.gd
    have w1 := w.lo
    have w2 := w.hi
    omega)
   have s2 := zeT (zr (vN f b) den).1 (zr (vN f b) den).2 im.1 im.2 (by
    have w := (zbA h b).mul o.gd
    have w1 := w.lo
    have w2 := w.hi
    omega)
   have f1 : mk (zr (vN f a) den).1 (zr (vN f a) den).2 = mk re.1 re.2 := f1
   have f2 : mk (zr (vN f b) den).1 (zr (vN f b) den).2 = mk im.1 im.2 := f2
   rw [decide_eq_true f1] at s1
   rw [decide_eq_true f2] at s2
   exact zd rfl (Ev.bind (zeV h a) (Ev.bind (ze1 va rd) (Ev.bind s1 (zd rfl (Ev.bind (zeV h b) (Ev.bind (ze1 vb rd) (Ev.bind s2 (zd rfl (Ev.bind zbU (Ev.now _))))))))))
  ·have hw2 := zdb o (n := r - 1) (by omega)
   rw [hr3 (r - 1) (by omega)] at hw2
   have e2 : wrap64 ((r : Int) - 1) = ((r - 1 : Nat) : Int) := by unfold wrap64; omega
   rw [e2]
   clear e2
   exact ze (by omega) (Ev.bind hw2 (zd rfl (zd rfl (Ev.bind zbU (Ev.now _)))))
theorem zfz (f a b : Int) (ha : IntKind.u64.min ≤ a ∧ a ≤ IntKind.u64.max) (hb : IntKind.u64.min ≤ b ∧ b ≤ IntKind.u64.max) (p0 p1 p2 : Bool) (l0 l1 l2 : List Int) (e0 e1 e2 : Int) (h0 : ∀ n ∈ l0, (Lit.int .u32 n).wf = true) (h1 : ∀ n ∈ l1, (Lit.int .u32 n).wf = true) (h2 : ∀ n ∈ l2, (Lit.int .u32 n).wf = true) (n0 : l0.length ≤ 140737488355328) (n1 : l1.length ≤ 140737488355328) (n2 : l2.length ≤ 140737488355328) :
  Ev (fun k => zbJ.f k f a b p0 l0 e0 p1 l1 e1 p2 l2 e2) true := by
 have q1 : IntKind.u64.min = 0 := rfl
 have q2 : IntKind.u64.max = 18446744073709551615 := rfl
 rw [q1, q2] at ha hb
 obtain ⟨a, rfl⟩ := Int.eq_ofNat_of_zero_le ha.1
 obtain ⟨b, rfl⟩ := Int.eq_ofNat_of_zero_le hb.1
 exact zfA f (by omega) (by omega) (x := (p0, l0, e0)) (y := (p1, l1, e1)) (z := (p2, l2, e2)) (Dg.wf h0) (Dg.wf h1) (Dg.wf h2) n0 n1 n2
end Go.Proofs.YtioialhbjmnndaaDoor.Eng.K
