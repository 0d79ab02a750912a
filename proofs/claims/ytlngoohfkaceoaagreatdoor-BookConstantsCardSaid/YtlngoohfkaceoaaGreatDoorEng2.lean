import Derived.Test.YtlngoohfkaceoaaGreatDoorEng1
import Derived.Calls
import Derived.Lib.ConvBytes
import Derived.Lib.OthersKept
import Derived.Laws.BytesArg
import Derived.Laws.AppendOwn
import Derived.Laws.RangeString
import Derived.Scope
import Derived.Below
import Derived.KernelRfl
import Derived.Lib.ItoaMem
import Derived.ChangeSame
import Derived.OpenShut
import Derived.WideShapes
import Derived.ChangeSlices
import Derived.Deep.Strs
import Derived.SizedLaws
import Derived.Carry
set_option linter.unusedVariables false
set_option linter.unusedSimpArgs false
namespace Go.Proofs.YtlngoohfkaceoaaGreatDoor.Eng
open Go.RowKit
universe u v
def qy : Kx → Bool | .bo _ => true | .bb _ => true | _ => false
def qaA : List Kx → List Kd
 | [] => [] | .bo k :: _ => [.is k] | .bb l :: _ => l | _ :: ks => qaA ks
def qY : List Kx → List V → List (Nat × Blk)
 | .bo _ :: _, l => (match l with | [.ints k x] => [(0, .ints k x false)] | _ => [])
 | .bb _ :: _, l => [(0, .cells l)]
 | _ :: ks, l => qY ks l
 | [], _ => []
theorem qab : ∀ {ks : List Kd} {l : List V}, qd ks l = true → l.length = ks.length ∧ ∀ y ∈ l, ∃ k ∈ ks, qF k y = true
 | [], [], _ => ⟨rfl, fun y h => by cases h⟩
 | k :: ks, v :: vs, h => by
  simp only [qd, Bool.and_eq_true] at h
  obtain ⟨a, b⟩ := qab h.2
  refine ⟨by simp [a], fun y hy => ?_⟩
  rcases List.mem_cons.1 hy with rfl | hy
  ·exact ⟨k, by simp, h.1⟩
  ·obtain ⟨k', c, d⟩ := b y hy
   exact ⟨k', by simp [c], d⟩
 | [], _ :: _, h => by cases h
 | _ :: _, [], h => by cases h
theorem qgH {ks : List Kd} {l : List V} (h : qd ks l = true) : ∀ y ∈ l, qbn y = true := fun y hy => by
 obtain ⟨k, _, hk⟩ := (qab h).2 y hy
 exact qea hk
def qeP (B : Nat → Blk) (w : World) (kx : Kx) (a : V) (x : Nat) (p p0 : Pl) : Prop :=
 ∀ rest W, qby B a rest = some W → qd (qA kx) rest = true → ∃ xb blk', W = [(x, xb)] ∧ qY [kx] rest = [(0, blk')] ∧ qs blk' = true ∧ qw xb = false ∧ qw blk' = false ∧
  ∀ M' φ' (w' : World) Ma φ'', (∀ l, kx = .bb l → ∀ u y, y ∈ rest → RL M' φ' u y → RL Ma φ'' u y) → RB M' φ' w' p0 blk' →
   (∀ j v, j < p.c → ¬ (p0.s ≤ p.s + j ∧ p.s + j < p0.s + p0.c) → w.cell? ⟨p.b, p.s + j, none⟩ = some v → w'.cell? ⟨p.b, p.s + j, none⟩ = some v) → RB Ma φ'' w' p xb
structure qgA (M1 : Mem) (φ : Plc) (B : Nat → Blk) (w : World) (kx : Kx) (x : V) (v : Value) (a : Ar) (id : Nat) (blk : Blk) (p p0 : Pl) : Prop where
 O : a.O = [blk]
 pn : a.pn = [id]
 pl : φ id = some p
 al : qs (B id) = true
 nit : qw (B id) = false
 sub : Sub p0 p
 rb : ∀ φ0, RB M1 φ0 w p0 blk
 abk : qs blk = true
 bnit : qw blk = false
 enc : ∃ y : Nat → V, (∀ n s l rest, qe ((n, kx) :: rest) s (a.ls ++ l) = qe rest { t := (n, y s.nx) :: s.t, O := (s.nx, blk) :: s.O, nx := s.nx + 1 } l) ∧ ∀ φ' i, φ' i = some p0 → RV M1 φ' v (y i)
 kind : (qy kx = false ∧ a.U = [(id, .gone)] ∧ qY [kx] = (fun _ => [])) ∨ (qy kx = true ∧ a.U = [] ∧ qeP B w kx x id p p0)
structure qgy (M1 : Mem) (kx : Kx) (v : Value) (a : Ar) : Prop where
 O : a.O = []
 pn : a.pn = []
 U : a.U = []
 lent : qy kx = false
 nol : qY [kx] = (fun _ => [])
 enc : ∃ y, (∀ n s l rest, qe ((n, kx) :: rest) s (a.ls ++ l) = qe rest { s with t := (n, y) :: s.t } l) ∧ ∀ φ', RV M1 φ' v y
section
variable {M M1 : Mem} {φ : Plc} {B B' B1 : Nat → Blk} {w : World} {dr : Bool} {k : Option IntKind} {kx : Kx} {x : V} {v : Value} {a : Ar}
theorem qcH {id : Nat} {p : Pl} {kk : IntKind} {l : List Int} {t : Bool} (hr : Rel M φ B' w) (hp : φ id = some p) (hB : B' id = .ints kk l t) :
  p.len = l.length ∧ p.len ≤ p.cap ∧ (p.nl = true → p.c = 0 ∧ p.cap = 0) ∧ (p.nl = false → t = true → p.cap = p.c) ∧ (t = false → p.c = l.length) ∧ l.length ≤ p.c ∧
   ∀ (j : Nat) x, l[j]? = some x → w.cell? ⟨p.b, p.s + j, none⟩ = some (.int kk x) ∧ inr kk x := by
 have := hr.blk id p hp
 rw [hB] at this
 exact this
theorem qhT {l : List Int} {lo hi : Option Int} {a e n : Nat} (ha : a = lo.elim 0 Int.toNat) (he : e = hi.elim n Int.toNat) (hn : n = l.length) : qU l lo hi = (l.take e).drop a := by
 unfold qU
 subst ha he hn
 cases lo <;> cases hi <;> simp
theorem qdO {α : Type} {dr : Bool} {X : Option α} {a : α} (h : bc dr none X = some a) : X = some a := by
 cases dr
 ·exact h
 ·cases h
theorem qeU : ∀ {ks js : List Kd} {l m : List V}, qd ks l = true → qd js m = true → qd (ks ++ js) (l ++ m) = true
 | [], _, [], _, _, h => h
 | [], _, _ :: _, _, h, _ => by cases h
 | _ :: _, _, [], _, h, _ => by cases h
 | k :: ks, js, v :: l, m, h1, h2 => by
  simp only [qd, Bool.and_eq_true, List.cons_append] at h1 ⊢
  exact ⟨h1.1, qeU h1.2 h2⟩
theorem qeJ : ∀ {kss : List (List Kd)} {vs y : List V}, qcC kss vs = some y → qd kss.flatten y = true ∧ ∀ l', qcz kss (y ++ l') = vs
 | [], [], y, h => by cases h; exact ⟨rfl, fun _ => rfl⟩
 | [], _ :: _, _, h => by cases h
 | _ :: _, [], _, h => by cases h
 | ks :: r, v :: vs, y, h => by
  cases v with
  | iptr l =>
   obtain ⟨hl, h1⟩ := qf (show bc (qd ks l) ((qcC r vs).ob fun x => some (l ++ x)) none = some y from h)
   obtain ⟨x, hx, h2⟩ := qi h1
   cases h2
   obtain ⟨i1, i2⟩ := qeJ hx
   have hlen := (qab hl).1
   refine ⟨by rw [List.flatten_cons]; exact qeU hl i1, fun l' => ?_⟩
   rw [qcz, List.append_assoc, ← hlen, List.take_append_of_le_length (Nat.le_refl _), List.take_length, List.drop_append_of_le_length (Nat.le_refl _), List.drop_length, List.nil_append, i2]
  | _ => cases h
theorem qeW (h : qac B dr k kx x = some a) (hv : RV M φ v x) (hM : Ext M M1) (hr : Rel M φ B' w) (hr1 : Rel M1 φ B1 w) (hB1 : ∀ id ∈ a.ns, B1 id = qn (B id)) (hB : ∀ id ∈ qG x, B' id = B id) :
  qgy M1 kx v a ∨ ∃ id blk p p0, qgA M1 φ B w kx x v a id blk p p0 := by
 cases kx with
 | lf kd =>
  obtain ⟨y, hy, h1⟩ := qi (show (qbA B k kd x).ob (fun x' => bc (qF kd x') (some (⟨[x'], [], [], [], qai x⟩ : Ar)) none) = some a from h)
  obtain ⟨hl, h2⟩ := qf h1
  cases h2
  exact .inl ⟨rfl, rfl, rfl, rfl, rfl, y, fun n s l rest => rfl, fun φ' => (qft hy hv hM hr1 hB1 φ').1.rv⟩
 | ag ks =>
  simp only [qac] at h
  split at h
  ·rename_i l
   obtain ⟨y, hy, h1⟩ := qi h
   obtain ⟨hl, h2⟩ := qf h1
   cases h2
   refine .inl ⟨rfl, rfl, rfl, rfl, rfl, .agg y, fun n s l rest => ?_, fun φ' => ?_⟩
   ·have := (qab hl).1
    simp [qe, ← this]
   ·obtain ⟨ar, e, hs, hg⟩ := (show RA M φ v (.agg l) from hv)
    obtain ⟨c1, c2⟩ := qfv hy (cs := ar) ⟨hs, hg⟩ hM hr1 hB1
    refine ⟨ar, e, c1, fun j z hz => ?_⟩
    obtain ⟨u, h1, h2⟩ := c2 j z hz
    exact ⟨u, h1, qcI (qgH hl z (List.mem_of_getElem? hz)) h2⟩
  ·cases h
 | ip ks =>
  simp only [qac] at h
  split at h
  ·rename_i l
   obtain ⟨hl, h2⟩ := qf h
   cases h2
   refine .inl ⟨rfl, rfl, rfl, rfl, rfl, .iptr l, fun n s l' rest => ?_, fun φ' => ?_⟩
   ·have := (qab hl).1
    simp [qe, ← this]
   ·obtain ⟨b, o, e, f⟩ := (show RL M φ v (.iptr l) from hv)
    exact ⟨b, o, e, fun j x hx => let ⟨u, a, c⟩ := f j x hx; ⟨u, hM _ _ _ a, c.mono hM⟩⟩
  ·cases h
 | cl f kss =>
  simp only [qac] at h
  split at h
  ·rename_i f' l
   obtain ⟨hf, h0⟩ := qf h
   have hf := qu hf
   subst hf
   obtain ⟨y, hy, h1⟩ := qi h0
   cases h1
   obtain ⟨u1, u2⟩ := qeJ hy
   have hlen := (qab u1).1
   refine .inl ⟨rfl, rfl, rfl, rfl, rfl, .clo f l, fun n s l' rest => ?_, fun φ' => ?_⟩
   ·simp [qe, ← hlen, u2]
   ·obtain ⟨cs, e, s1, g⟩ := (show RL M φ v (.clo f l) from hv)
    exact ⟨cs, e, s1, fun j x hx => let ⟨u, a, c⟩ := g j x hx; ⟨u, a, c.mono hM⟩⟩
  ·cases h
 | bx _ => cases h
 | al _ => cases h
 | it => cases h
 | ar _ => cases h
 | ao _ _ _ => cases h
 | bxo _ _ _ => cases h
 | ow k' =>
  simp only [qac] at h
  replace h := qdO h
  split at h
  ·rename_i id
   split at h
   ·rename_i k2 l hBid
    obtain ⟨hk, h1⟩ := qf h
    obtain rfl := qE hk
    cases h1
    obtain ⟨p, hp, rfl⟩ := hv
    obtain ⟨b1, b2, b3, b4, b5, b6, b7⟩ := qcH hr hp ((hB id (by simp [qG])).trans hBid)
    refine .inr ⟨id, _, p, p, rfl, rfl, hp, by rw [hBid]; rfl, by rw [hBid]; rfl, ⟨rfl, fun _ => ⟨Nat.le_refl _, Nat.le_refl _⟩⟩, fun φ0 => ⟨b1, b2, b3, b4, b5, b6, b7⟩, rfl, rfl, ⟨.own, fun n s l rest => rfl, fun φ' i hi => ⟨p, hi, rfl⟩⟩, .inl ⟨rfl, rfl, rfl⟩⟩
   ·cases h
  ·rename_i id e
   split at h
   ·rename_i k2 l hBid
    obtain ⟨hk, h1⟩ := qf h
    obtain rfl := qE hk
    cases h1
    obtain ⟨p, hp, a, h', ha, he, hae, hle, hv⟩ := hv
    obtain ⟨b1, b2, b3, b4, b5, b6, b7⟩ := qcH hr hp ((hB id (by simp [qG])).trans hBid)
    simp only [Option.elim] at ha he
    subst ha
    subst he
    refine .inr ⟨id, _, p, { p with len := e.toNat }, rfl, rfl, hp, by rw [hBid]; rfl, by rw [hBid]; rfl, ⟨rfl, fun _ => ⟨Nat.le_refl _, Nat.le_refl _⟩⟩, fun φ0 => ⟨by simp; omega, by simp; omega, b3, b4, fun h => (by cases h), by simp; omega, fun j z hz => ?_⟩, rfl, rfl, ⟨.own, fun n s l rest => rfl, fun φ' i hi => ⟨_, hi, ?_⟩⟩, .inl ⟨rfl, rfl, rfl⟩⟩
    ·rw [List.getElem?_take] at hz
     split at hz
     ·exact b7 j z hz
     ·cases hz
    ·unfold Pl.val
     rcases hv with ⟨hn, rfl⟩ | ⟨hn, s', c', rfl, _, hc, _, hs⟩
     ·simp [hn]
     ·simp only [hn, Bool.false_eq_true, if_false, Nat.sub_zero]
      rw [hs rfl, hc rfl]
   ·cases h
  ·cases h
 | bo k' =>
  simp only [qac] at h
  replace h := qdO h
  split at h
  ·rename_i id
   split at h
   ·rename_i k2 l t hBid
    obtain ⟨hk, h1⟩ := qf h
    obtain rfl := qE hk
    cases h1
    obtain ⟨p, hp, rfl⟩ := hv
    obtain ⟨b1, b2, b3, b4, b5, b6, b7⟩ := qcH hr hp ((hB id (by simp [qG])).trans hBid)
    refine .inr ⟨id, _, p, { p with c := l.length }, rfl, rfl, hp, by rw [hBid]; rfl, by rw [hBid]; rfl, ⟨rfl, fun _ => ⟨Nat.le_refl _, by simp; omega⟩⟩, fun φ0 => ⟨b1, b2, fun hn => ?_, fun _ h => (by cases h), fun _ => rfl, Nat.le_refl _, b7⟩, rfl, rfl, ⟨.own, fun n s l rest => rfl, fun φ' i hi => ⟨_, hi, rfl⟩⟩, .inr ⟨rfl, rfl, ?_⟩⟩
    ·have := b3 hn
     exact ⟨by simp only; omega, this.2⟩
    ·intro rest W hW hlf
     simp only [qA] at hlf
     unfold qby at hW
     split at hW
     ·rename_i id' kk y heq1
      cases heq1
      rw [hBid] at hW
      simp only at hW
      cases hW
      simp only [qd, qF, Bool.and_true] at hlf
      obtain rfl := qE hlf
      refine ⟨_, _, rfl, rfl, rfl, rfl, rfl, fun M' φ' w' Ma φ'' _ hrb hkp => ?_⟩
      obtain ⟨c1, c2, c3, c4, c5, c6, c7⟩ := hrb
      simp only at c1 c2 c6 c7
      have := c5 rfl
      simp only at this
      exact ⟨c1, b2, b3, b4, fun h => by have := b5 h; omega, by omega, c7⟩
     all_goals first | contradiction | (cases hW; done)
   ·cases h
  ·rename_i id lo hi
   split at h
   ·rename_i k2 l t hBid
    obtain ⟨hk, h1⟩ := qf h
    obtain rfl := qE hk
    cases h1
    obtain ⟨p, hp, a, e, ha, he, hae, hle, hv⟩ := hv
    obtain ⟨b1, b2, b3, b4, b5, b6, b7⟩ := qcH hr hp ((hB id (by simp [qG])).trans hBid)
    have hpc := qhT (l := l) (n := p.len) ha he b1
    have hlen : (qU l lo hi).length = e - a := by rw [hpc]; simp; omega
    have hvv : ∃ s' c', v = (⟨p.b, s', e - a, e - a, c', p.nl⟩ : Pl).val ∧ (0 < e - a → s' = p.s + a) ∧ e - a ≤ c' ∧ (p.nl = true → c' = 0) := by
     unfold Pl.val
     rcases hv with ⟨hn, rfl⟩ | ⟨hn, s', c', rfl, hc1, hc2, hs1, hs2⟩
     ·have := b3 hn
      exact ⟨p.s + a, 0, by simp [hn], fun _ => rfl, by omega, fun _ => rfl⟩
     ·exact ⟨s', c', by simp [hn], fun h => hs1 (by omega), hc1, fun h => by rw [hn] at h; cases h⟩
    obtain ⟨s', c', hv', hs', hc1, hc2⟩ := hvv
    refine .inr ⟨id, _, p, ⟨p.b, s', e - a, e - a, c', p.nl⟩, rfl, rfl, hp, by rw [hBid]; rfl, by rw [hBid]; rfl, ⟨rfl, fun h => ?_⟩, fun φ0 => ⟨by simp [hlen], by simp; omega, fun hn => ?_, fun _ h => (by cases h), fun _ => by simp [hlen], by simp [hlen], fun j z hz => ?_⟩, rfl, rfl, ⟨.own, fun n s l rest => rfl, fun φ' i hi => ⟨_, hi, hv'⟩⟩, .inr ⟨rfl, rfl, ?_⟩⟩
    ·simp only at h ⊢
     rw [hs' h]; omega
    ·have := b3 hn
     have := hc2 hn
     simp only
     omega
    ·have hj := (List.getElem?_eq_some_iff.1 hz).1
     rw [hpc, List.getElem?_drop, List.getElem?_take, if_pos (by omega)] at hz
     have := b7 _ _ hz
     simp only
     rw [hs' (by omega), Nat.add_assoc]
     exact this
    ·intro rest W hW hlf
     simp only [qA] at hlf
     unfold qby at hW
     split at hW
     ·rename_i _ _ _ heq1; cases heq1
     ·rename_i id' lo' hi' kk y heq1
      cases heq1
      rw [hBid] at hW
      simp only at hW
      simp only [qd, qF, Bool.and_true] at hlf
      obtain rfl := qE hlf
      have hW2 : W = [(id, .ints k' (l.take a ++ y ++ l.drop e) t)] ∨ (lo = none ∧ hi = none ∧ W = [(id, .ints k' y t)]) := by
       subst ha he
       cases lo <;> cases hi <;> simp only at hW <;> cases hW
       ·exact .inr ⟨rfl, rfl, rfl⟩
       ·exact .inl (by simp)
       ·exact .inl (by simp [b1])
       ·exact .inl (by simp)
      obtain ⟨y', hW3, hy'⟩ : ∃ y', W = [(id, .ints k' y' t)] ∧ (y.length = e - a → y' = l.take a ++ y ++ l.drop e) := by
       rcases hW2 with h | ⟨h1, h2, h3⟩
       ·exact ⟨_, h, fun _ => rfl⟩
       ·subst h1 h2
        simp only [Option.elim] at ha he
        exact ⟨y, h3, fun _ => by subst ha he; simp [b1]⟩
      refine ⟨_, _, hW3, rfl, rfl, rfl, rfl, fun M' φ' w' Ma φ'' _ hrb hkp => ?_⟩
      obtain ⟨c1, c2, c3, c4, c5, c6, c7⟩ := hrb
      simp only at c1 c2 c6 c7
      have hyl := c5 rfl
      simp only at hyl
      rw [hy' hyl.symm]
      have hll : (l.take a ++ y ++ l.drop e).length = l.length := by simp; omega
      refine ⟨by rw [hll, b1], b2, b3, b4, fun h => by rw [hll]; exact b5 h, by rw [hll]; exact b6, fun j z hz => ?_⟩
      have hk : ∀ {j : Nat} {z : Int}, l[j]? = some z → ¬ (a ≤ j ∧ j < e) → w'.cell? ⟨p.b, p.s + j, none⟩ = some (.int k' z) ∧ inr k' z := fun {j z} hz hno => by
       obtain ⟨h1, h2⟩ := b7 j z hz
       have hj := (List.getElem?_eq_some_iff.1 hz).1
       refine ⟨hkp j _ (by omega) (fun hc => ?_) h1, h2⟩
       simp only at hc
       have := hs' (by omega)
       omega
      rw [List.append_assoc, List.getElem?_append] at hz
      simp only [List.length_take] at hz
      split at hz
      ·rename_i hj
       rw [List.getElem?_take] at hz
       split at hz
       ·exact hk hz (by omega)
       ·cases hz
      ·rename_i hj
       rw [List.getElem?_append] at hz
       split at hz
       ·rename_i hj2
        have := c7 _ _ hz
        rw [hs' (by omega)] at this
        rw [show p.s + j = p.s + a + (j - min a l.length) by omega]
        exact this
       ·rename_i hj2
        rw [List.getElem?_drop, show e + (j - min a l.length - y.length) = j by omega] at hz
        exact hk hz (by omega)
     all_goals first | contradiction | (cases hW; done)
   ·cases h
  ·cases h
 | bb ks =>
  simp only [qac] at h
  replace h := qdO h
  split at h
  ·rename_i id
   split at h
   ·rename_i l hBid
    obtain ⟨y, hy, h1⟩ := qi h
    obtain ⟨hl, h2⟩ := qf h1
    cases h2
    obtain ⟨p, hp, hv⟩ := hv
    have hb := hr.blk id p hp
    rw [hB id (by simp [qG]), hBid] at hb
    obtain ⟨b1, b2, b3⟩ := hb
    obtain ⟨i1, i2⟩ := qd8 hy
    refine .inr ⟨id, _, p, p, rfl, rfl, hp, by rw [hBid]; rfl, by rw [hBid]; rfl, ⟨rfl, fun _ => ⟨Nat.le_refl _, Nat.le_refl _⟩⟩, fun φ0 => ⟨b1, by rw [b2, i1], fun j z hz => ?_⟩, rfl, rfl, ⟨fun i => .ptr i 0, fun n s l rest => ?_, fun φ' i hi => ⟨p, hi, hv⟩⟩, .inr ⟨rfl, rfl, ?_⟩⟩
    ·obtain ⟨c, hc, hic⟩ := i2 j z hz
     obtain ⟨u, hu, hru⟩ := b3 j c hc
     exact ⟨u, hu, qcI (qfu hic) (qd7 hic hru.rv hM hr1 (fun id hid => hB1 id (qfL hc hid))).1⟩
    ·have := (qab hl).1
     simp [qe, ← this]
    ·intro rest W hW hlf
     simp only [qA] at hlf
     have hW' : W = [(id, .cells rest)] := by
      unfold qby at hW
      split at hW
      ·rename_i heq1; cases heq1
      ·rename_i heq1; cases heq1
      ·rename_i id' l' heq1
       cases heq1
       rw [hBid] at hW
       simp only at hW
       cases hW
       rfl
      ·rename_i heq1; cases heq1
      ·cases hW
     refine ⟨_, _, hW', rfl, rfl, rfl, rfl, fun M' φ' w' Ma φ'' hl2 hrb hkp => ?_⟩
     obtain ⟨c1, c2, c3⟩ := hrb
     refine ⟨c1, c2, fun j z hz => ?_⟩
     obtain ⟨u, hu, hru⟩ := c3 j z hz
     exact ⟨u, hu, hl2 _ rfl u z (List.mem_of_getElem? hz) hru⟩
   ·cases h
  ·cases h
end
def Ent (S : Sig) (ls : List V) : St := qe (qS 0 S.ps) q8 ls
structure qdD (S : Sig) (ls : List V) (M : Mem) (φ : Plc) (w : World) (args : Array Value) : Prop where
 rel : Rel M φ (qc (Ent S ls).O) w
 size : args.size = S.ps.length
 args : ∀ (i : Nat) (v : Value), args[i]? = some v → RV M φ v (qj (Ent S ls).t i)
 fresh : ∀ id, (Ent S ls).nx ≤ id → φ id = none
def qaf (S : Sig) (nx : Nat) (r : S.R) : Nat → Blk := qp (qaj nx (qg nx S.rs (S.un r)).2.1 ++ qY S.ps (qg nx S.rs (S.un r)).2.2) (fun _ => .gone)
def qeN (S : Sig) (ls : List V) (r : S.R) (M : Mem) (φ : Plc) (w : World) (v : Value) (w' : World) : Prop :=
 qd (qo S.rs ++ S.wb) (S.un r) = true ∧ ∃ M' φ', RV M' φ' v (qaY (qg (Ent S ls).nx S.rs (S.un r)).1) ∧ Rel M' φ' (qaf S (Ent S ls).nx r) w' ∧
  Stp M φ (qc (Ent S ls).O) w M' φ' (qaf S (Ent S ls).nx r) w' ∧ qr φ φ'
def qan : Kx → Bool | .lf _ => true | .ag _ => true | .ow _ => true | .bx _ => true | .ao _ _ _ => true | _ => false
structure qR (P : Program) (M0 : Mem) (f : Nat) (F : Fun) : Prop where
 fn : ∃ fn c, P.funcs[f]? = some fn ∧ (fn.name == "runtime.NumGoroutine") = false ∧ fn.body = some c
 wb : F.S.wb = qaA F.S.ps
 rs : F.S.rs.all qan = true
 call : ∀ M φ w args ls r, Ext M0 M → qdD F.S ls M φ w args → app (qo F.S.ps) F.f ls = some r → Calls P f args w fun e w' => ∃ v, e = .returned v ∧ qeN F.S ls r M φ w v w'
theorem q9 {n i : Nat} {v : V} {t : List (Nat × V)} : qj ((n, v) :: t) i = if i = n then v else qj t i := by
 simp only [qj]
 by_cases h : i = n
 ·subst h; simp
 ·have : Nat.beq n i = false := by cases e : Nat.beq n i; rfl; exact absurd (qu e).symm h
  simp [this, h]
section
variable {M M1 : Mem} {φ : Plc} {B B' B1 : Nat → Blk} {w : World} {dr : Bool} {T : Nat → Option IntKind}
structure qgw (M1 : Mem) (ps : List Kx) (vs : List V) (args : List Value) (q : Ar) : Prop where
 O : q.O = []
 U : q.U = []
 lent : qbo ps vs = .dead
 nol : qY ps = (fun _ => [])
 kinds : qaA ps = []
 len : args.length = ps.length
 enc : ∀ n s l, ∃ t', qe (qS n ps) s (q.ls ++ l) = { s with t := t' } ∧ (∀ j, j < n → qj t' j = qj s.t j) ∧ ∀ (i : Nat) (v : Value), args[i]? = some v → ∀ φ', RV M1 φ' v (qj t' (n + i))
theorem qcj {s : St} {l : List V} : qe [] s l = s := by unfold qe; rfl
theorem qeh {k : Kx} {ks : List Kx} (h : qy k = false) : qY (k :: ks) = qY ks ∧ qaA (k :: ks) = qaA ks ∧ ∀ v vs, qbo (k :: ks) (v :: vs) = qbo ks vs := by
 cases k <;> first | exact ⟨rfl, rfl, fun _ _ => rfl⟩ | cases h
theorem qha {k : Kx} {ks : List Kx} (h : qy k = true) : qY (k :: ks) = qY [k] ∧ qaA (k :: ks) = qA k ∧ ∀ v vs, qbo (k :: ks) (v :: vs) = v := by
 cases k <;> first | exact ⟨rfl, rfl, fun _ _ => rfl⟩ | cases h
structure qbO (M M1 : Mem) (φ : Plc) (B B' B1 : Nat → Blk) (w : World) (vs : List V) (args : List Value) (ns : List Nat) : Prop where
 hM : Ext M M1
 hr : Rel M φ B' w
 hr1 : Rel M1 φ B1 w
 hB1 : ∀ id ∈ ns, B1 id = qn (B id)
 hB : ∀ x ∈ vs, ∀ id ∈ qG x, B' id = B id
 len : args.length = vs.length
 rv : ∀ (i : Nat) (v : Value) (x : V), args[i]? = some v → vs[i]? = some x → RV M φ v x
theorem qbO.tail {x : V} {vs : List V} {v : Value} {args : List Value} {ns ns' : List Nat} (h : qbO M M1 φ B B' B1 w (x :: vs) (v :: args) (ns ++ ns')) : qbO M M1 φ B B' B1 w vs args ns' :=
 ⟨h.hM, h.hr, h.hr1, fun id hid => h.hB1 id (by simp [hid]), fun y hy => h.hB y (by simp [hy]), by simpa using h.len, fun i v x h1 h2 => h.rv (i + 1) v x (by simpa using h1) (by simpa using h2)⟩
theorem qcK {tys : List Nat} {k : Kx} {ks : List Kx} {v : V} {vs : List V} {q : Ar} (h : qa8 T B dr tys (k :: ks) (v :: vs) = some q) :
  ∃ a q', qac B dr (T (tys.headD 0)) k v = some a ∧ qa8 T B dr (tys.drop 1) ks vs = some q' ∧ q = ⟨a.ls ++ q'.ls, a.O ++ q'.O, a.U ++ q'.U, a.pn ++ q'.pn, a.ns ++ q'.ns⟩ := by
 obtain ⟨a, ha, h1⟩ := qi (show (qac B dr (T (tys.headD 0)) k v).ob (fun q => (qa8 T B dr (tys.drop 1) ks vs).ob fun q' =>
   some ⟨q.ls ++ q'.ls, q.O ++ q'.O, q.U ++ q'.U, q.pn ++ q'.pn, q.ns ++ q'.ns⟩) = some q from h)
 obtain ⟨q', hq', h2⟩ := qi h1
 cases h2
 exact ⟨a, q', ha, hq', rfl⟩
theorem qdM : ∀ {tys : List Nat} {ps : List Kx} {vs : List V} {args : List Value} {q : Ar}, qa8 T B dr tys ps vs = some q → q.pn = [] → qbO M M1 φ B B' B1 w vs args q.ns → qgw M1 ps vs args q
 | _, [], [], args, q, h, _, hi => by
  cases h
  have : args = [] := List.length_eq_zero_iff.1 (by simpa using hi.len)
  subst this
  exact ⟨rfl, rfl, rfl, rfl, rfl, rfl, fun n s l => ⟨s.t, qcj, fun _ _ => rfl, fun i v hv => by simp at hv⟩⟩
 | tys, k :: ks, v :: vs, [], q, h, _, hi => by have := hi.len; simp at this
 | tys, k :: ks, x :: vs, v :: args, q, h, hp, hi => by
  obtain ⟨a, q', ha, hq', rfl⟩ := qcK h
  simp only [List.append_eq_nil_iff] at hp
  rcases qeW ha (hi.rv 0 v x rfl rfl) hi.hM hi.hr hi.hr1 (fun id hid => hi.hB1 id (by simp [hid])) (hi.hB x (by simp)) with hpl | ⟨id, blk, p, p0, hs⟩
  ·have ht := qdM hq' hp.2 hi.tail
   obtain ⟨c1, c2, c3⟩ := qeh (ks := ks) hpl.lent
   obtain ⟨y, he, hv⟩ := hpl.enc
   refine ⟨by simp [hpl.O, ht.O], by simp [hpl.U, ht.U], by rw [c3]; exact ht.lent, by rw [c1]; exact ht.nol, by rw [c2]; exact ht.kinds, by simp [ht.len], fun n s l => ?_⟩
   obtain ⟨t', e1, e2, e3⟩ := ht.enc (n + 1) { s with t := (n, y) :: s.t } l
   refine ⟨t', ?_, fun j hj => ?_, fun i v' hv' φ' => ?_⟩
   ·rw [List.append_assoc]
    show qe ((n, k) :: qS (n + 1) ks) s _ = _
    rw [he, e1]
   ·rw [e2 j (by omega), q9, if_neg (by omega)]
   ·cases i with
    | zero =>
     simp at hv'
     subst hv'
     rw [Nat.add_zero, e2 n (by omega), q9, if_pos rfl]
     exact hv φ'
    | succ i =>
     have := e3 i v' (by simpa using hv') φ'
     rwa [show n + 1 + i = n + (i + 1) by omega] at this
  ·have := hs.pn
   rw [hp.1] at this
   cases this
 | _, [], _ :: _, _, _, h, _, _ => by cases h
 | _, _ :: _, [], _, _, h, _, _ => by cases h
structure qgx (M1 : Mem) (φ : Plc) (B : Nat → Blk) (w : World) (ps : List Kx) (vs : List V) (args : List Value) (q : Ar) (x : Nat) (blk : Blk) (p p0 : Pl) : Prop where
 O : q.O = [blk]
 pl : φ x = some p
 al : qs (B x) = true
 nit : qw (B x) = false
 sub : Sub p0 p
 rb : ∀ φ0, RB M1 φ0 w p0 blk
 abk : qs blk = true
 bnit : qw blk = false
 len : args.length = ps.length
 kind : (q.U = [(x, .gone)] ∧ qY ps = (fun _ => []) ∧ qbo ps vs = .dead ∧ qaA ps = []) ∨
  (q.U = [] ∧ ∃ kx, qy kx = true ∧ qY ps = qY [kx] ∧ qaA ps = qA kx ∧ kx ∈ ps ∧ qeP B w kx (qbo ps vs) x p p0)
 enc : ∀ n s l, s.nx = 0 → ∃ t', qe (qS n ps) s (q.ls ++ l) = { t := t', O := (0, blk) :: s.O, nx := 1 } ∧ (∀ j, j < n → qj t' j = qj s.t j) ∧
  ∀ (i : Nat) (v : Value), args[i]? = some v → ∀ φ', φ' 0 = some p0 → RV M1 φ' v (qj t' (n + i))
theorem qeY {x : Nat} : ∀ {tys : List Nat} {ps : List Kx} {vs : List V} {args : List Value} {q : Ar}, qa8 T B dr tys ps vs = some q → q.pn = [x] → qbO M M1 φ B B' B1 w vs args q.ns →
  ∃ blk p p0, qgx M1 φ B w ps vs args q x blk p p0
 | _, [], [], args, q, h, hp, hi => by cases h; cases hp
 | tys, k :: ks, v :: vs, [], q, h, _, hi => by have := hi.len; simp at this
 | tys, k :: ks, xv :: vs, v :: args, q, h, hp, hi => by
  obtain ⟨a, q', ha, hq', rfl⟩ := qcK h
  rcases qeW ha (hi.rv 0 v xv rfl rfl) hi.hM hi.hr hi.hr1 (fun id hid => hi.hB1 id (by simp [hid])) (hi.hB xv (by simp)) with hpl | ⟨id, blk, p, p0, hs⟩
  ·simp only [hpl.pn, List.nil_append] at hp
   obtain ⟨blk, p, p0, ht⟩ := qeY hq' hp hi.tail
   obtain ⟨c1, c2, c3⟩ := qeh (ks := ks) hpl.lent
   obtain ⟨y, he, hv⟩ := hpl.enc
   refine ⟨blk, p, p0, by simp [hpl.O, ht.O], ht.pl, ht.al, ht.nit, ht.sub, ht.rb, ht.abk, ht.bnit, by simp [ht.len], ?_, fun n s l hnx => ?_⟩
   ·rw [c1, c2, c3]
    rcases ht.kind with ⟨k1, k2, k3, k4⟩ | ⟨k1, kx, k2, k3, k4, k5, k6⟩
    ·exact .inl ⟨by simp [hpl.U, k1], k2, k3, k4⟩
    ·exact .inr ⟨by simp [hpl.U, k1], kx, k2, k3, k4, by simp [k5], k6⟩
   ·obtain ⟨t', e1, e2, e3⟩ := ht.enc (n + 1) { s with t := (n, y) :: s.t } l hnx
    refine ⟨t', ?_, fun j hj => ?_, fun i v' hv' φ' hφ' => ?_⟩
    ·rw [List.append_assoc]
     show qe ((n, k) :: qS (n + 1) ks) s _ = _
     rw [he, e1]
    ·rw [e2 j (by omega), q9, if_neg (by omega)]
    ·cases i with
     | zero =>
      simp at hv'
      subst hv'
      rw [Nat.add_zero, e2 n (by omega), q9, if_pos rfl]
      exact hv φ'
     | succ i =>
      have := e3 i v' (by simpa using hv') φ' hφ'
      rwa [show n + 1 + i = n + (i + 1) by omega] at this
  ·simp only [hs.pn, List.cons_append, List.nil_append, List.cons.injEq] at hp
   obtain ⟨rfl, hp⟩ := hp
   have ht := qdM hq' hp hi.tail
   obtain ⟨y, he, hv⟩ := hs.enc
   refine ⟨blk, p, p0, by simp [hs.O, ht.O], hs.pl, hs.al, hs.nit, hs.sub, hs.rb, hs.abk, hs.bnit, by simp [ht.len], ?_, fun n s l hnx => ?_⟩
   ·rcases hs.kind with ⟨k1, k2, k3⟩ | ⟨k1, k2, k3⟩
    ·obtain ⟨c1, c2, c3⟩ := qeh (ks := ks) k1
     rw [c1, c2, c3]
     exact .inl ⟨by simp [k2, ht.U], ht.nol, ht.lent, ht.kinds⟩
    ·obtain ⟨c1, c2, c3⟩ := qha (ks := ks) k1
     rw [c1, c2, c3]
     exact .inr ⟨by simp [k2, ht.U], k, k1, rfl, rfl, by simp, k3⟩
   ·obtain ⟨t', e1, e2, e3⟩ := ht.enc (n + 1) { t := (n, y s.nx) :: s.t, O := (s.nx, blk) :: s.O, nx := s.nx + 1 } l
    refine ⟨t', ?_, fun j hj => ?_, fun i v' hv' φ' hφ' => ?_⟩
    ·rw [List.append_assoc]
     show qe ((n, k) :: qS (n + 1) ks) s _ = _
     rw [he, e1, hnx]
    ·rw [e2 j (by omega), q9, if_neg (by omega)]
    ·cases i with
     | zero =>
      simp at hv'
      subst hv'
      rw [Nat.add_zero, e2 n (by omega), q9, if_pos rfl]
      exact hv φ' s.nx (by rw [hnx]; exact hφ')
     | succ i =>
      have := e3 i v' (by simpa using hv') φ'
      rwa [show n + 1 + i = n + (i + 1) by omega] at this
 | _, [], _ :: _, _, _, h, _, _ => by cases h
 | _, _ :: _, [], _, _, h, _, _ => by cases h
end
def qeb : V → Bool | .int _ _ => true | .bool _ => true | .str _ => true | .fn _ => true | .nili => true | .nilp => true | _ => false
theorem qfC {k : Kd} {y : V} (h : qF k y = true) (hk : k.scal = true) : qeb y = true := by
 cases k <;> cases y <;> first | rfl | cases h | cases hk
theorem qgz {M M' : Mem} {φ φ' : Plc} {u : Value} {y : V} (hy : qeb y = true) (h : RL M φ u y) : RL M' φ' u y := by
 cases y <;> first | exact h | cases hy
def Okl (sc : Bool) (y : V) : Prop := qbn y = true ∧ (sc = true → qeb y = true)
theorem qcd {sc : Bool} {ks : List Kd} {l : List V} (h : qd ks l = true) (hs : sc = true → ks.all Kd.scal = true) : ∀ y ∈ l, Okl sc y := fun y hy => by
 obtain ⟨k, hk, h1⟩ := (qab h).2 y hy
 exact ⟨qea h1, fun h => qfC h1 (List.all_eq_true.1 (hs h) k hk)⟩
theorem qaO : ∀ {ks js : List Kd} {l : List V}, qd (ks ++ js) l = true → qd ks (l.take ks.length) = true ∧ qd js (l.drop ks.length) = true
 | [], js, l, h => ⟨by cases l <;> rfl, h⟩
 | k :: ks, js, v :: vs, h => by
  simp only [List.cons_append, qd, Bool.and_eq_true] at h
  obtain ⟨a, b⟩ := qaO h.2
  exact ⟨by simp only [List.length_cons, List.take_succ_cons, qd, Bool.and_eq_true]; exact ⟨h.1, a⟩, by simpa using b⟩
 | k :: ks, js, [], h => by cases h
def qbv (sc : Bool) (a b m : Nat) (y y' : V) : Prop :=
 (y = y' ∧ Okl sc y) ∨ (∃ l, y = .agg l ∧ y' = .agg l ∧ ∀ z ∈ l, Okl sc z) ∨ (∃ i, i < m ∧ ((y = .own (a + i) ∧ y' = .own (b + i)) ∨ (y = .ptr (a + i) 0 ∧ y' = .ptr (b + i) 0))) ∨
  ∃ p q i, i < m ∧ y = .agg (p ++ .own (a + i) :: q) ∧ y' = .agg (p ++ .own (b + i) :: q) ∧ ∀ z ∈ p ++ q, Okl sc z
def qeo (sc : Bool) : Blk → Prop | .ints _ _ _ => True | .cells l => sc = false ∧ ∀ z ∈ l, qbn z = true | _ => False
theorem qhe {sc : Bool} {b : Blk} (h : qeo sc b) : qs b = true := by cases b <;> first | rfl | exact h.elim
theorem qbv.up {sc : Bool} {a b m : Nat} {y y' : V} (h : qbv sc (a + 1) (b + 1) m y y') : qbv sc a b (m + 1) y y' := by
 rcases h with h | h | ⟨i, hi, ⟨e1, e2⟩ | ⟨e1, e2⟩⟩ | ⟨p, q, i, hi, e1, e2, hz⟩
 ·exact .inl h
 ·exact .inr (.inl h)
 ·exact .inr (.inr (.inl ⟨i + 1, by omega, .inl ⟨by rw [e1]; congr 1; omega, by rw [e2]; congr 1; omega⟩⟩))
 ·exact .inr (.inr (.inl ⟨i + 1, by omega, .inr ⟨by rw [e1]; congr 1; omega, by rw [e2]; congr 1; omega⟩⟩))
 ·exact .inr (.inr (.inr ⟨p, q, i + 1, by omega, by rw [e1, show a + 1 + i = a + (i + 1) by omega], by rw [e2, show b + 1 + i = b + (i + 1) by omega], hz⟩))
theorem qet {c : Nat} {p q : List Kd} {k k' : IntKind} {ks : List Kx} {l m : List V} {x : List Int} (hd : l.drop p.length = .ints k' x :: m) :
  qg c (.ao p k q :: ks) l = (.agg (l.take p.length ++ .own c :: m.take q.length) :: (qg (c + 1) ks (m.drop q.length)).1, .ints k x true :: (qg (c + 1) ks (m.drop q.length)).2.1, (qg (c + 1) ks (m.drop q.length)).2.2) := by
 have e : qg c (.ao p k q :: ks) l = (match l.drop p.length with
  | .ints _ x :: m => (.agg (l.take p.length ++ .own c :: m.take q.length) :: (qg (c + 1) ks (m.drop q.length)).1, .ints k x true :: (qg (c + 1) ks (m.drop q.length)).2.1, (qg (c + 1) ks (m.drop q.length)).2.2)
  | _ => ([], [], [])) := by cases l <;> rfl
 rw [e, hd]
theorem qbH {sc : Bool} {wb : List Kd} : ∀ {ks : List Kx} {l : List V} (a b : Nat), ks.all qan = true → qd (qo ks ++ wb) l = true → (sc = true → ks.all Kx.scal = true) →
  (qg b ks l).2.1 = (qg a ks l).2.1 ∧ (qg b ks l).2.2 = (qg a ks l).2.2 ∧ qd wb (qg a ks l).2.2 = true ∧ (∀ x ∈ (qg a ks l).2.1, qeo sc x) ∧
   (qg b ks l).1.length = (qg a ks l).1.length ∧ ∀ (j : Nat) y, (qg a ks l).1[j]? = some y → ∃ y', (qg b ks l).1[j]? = some y' ∧ qbv sc a b (qg a ks l).2.1.length y y'
 | [], l, a, b, _, h, _ => by
  have e : ∀ c, qg c [] l = ([], [], l) := fun c => by unfold qg; rfl
  rw [e, e]
  exact ⟨rfl, rfl, h, fun x hx => (by cases hx), rfl, fun j y hy => (by simp at hy)⟩
 | .lf k :: ks, l, a, b, hk, h, hs => by
  simp only [List.all_cons, Bool.and_eq_true] at hk
  cases l with
  | nil => cases h
  | cons v l =>
   simp only [qo, qA, List.cons_append, List.nil_append, qd, Bool.and_eq_true] at h
   obtain ⟨i1, i2, i3, i4, i5, i6⟩ := qbH (sc := sc) a b hk.2 h.2 (fun h => by have := hs h; simp only [List.all_cons, Bool.and_eq_true] at this; exact this.2)
   have e : ∀ c, qg c (.lf k :: ks) (v :: l) = (v :: (qg c ks l).1, (qg c ks l).2.1, (qg c ks l).2.2) := fun c => rfl
   rw [e, e]
   refine ⟨i1, i2, i3, i4, by simp [i5], fun j y hy => ?_⟩
   cases j with
   | zero =>
    simp at hy; subst hy
    refine ⟨_, rfl, .inl ⟨rfl, qea h.1, fun hsc => qfC h.1 ?_⟩⟩
    have := hs hsc
    simp only [List.all_cons, Bool.and_eq_true] at this
    exact this.1
   | succ j => simpa using i6 j y (by simpa using hy)
 | .ag js :: ks, l, a, b, hk, h, hs => by
  simp only [List.all_cons, Bool.and_eq_true] at hk
  simp only [qo, qA, List.append_assoc] at h
  obtain ⟨h1, h2⟩ := qaO h
  obtain ⟨i1, i2, i3, i4, i5, i6⟩ := qbH (sc := sc) a b hk.2 h2 (fun h => by have := hs h; simp only [List.all_cons, Bool.and_eq_true] at this; exact this.2)
  have e : ∀ c, qg c (.ag js :: ks) l = (.agg (l.take js.length) :: (qg c ks (l.drop js.length)).1, (qg c ks (l.drop js.length)).2.1, (qg c ks (l.drop js.length)).2.2) := fun c => by cases l <;> rfl
  rw [e, e]
  refine ⟨i1, i2, i3, i4, by simp [i5], fun j y hy => ?_⟩
  cases j with
  | zero =>
   simp at hy; subst hy
   refine ⟨_, rfl, .inr (.inl ⟨_, rfl, rfl, qcd h1 fun hsc => ?_⟩)⟩
   have := hs hsc
   simp only [List.all_cons, Bool.and_eq_true] at this
   exact this.1
  | succ j => simpa using i6 j y (by simpa using hy)
 | .ow k :: ks, l, a, b, hk, h, hs => by
  simp only [List.all_cons, Bool.and_eq_true] at hk
  cases l with
  | nil => cases h
  | cons v l =>
   simp only [qo, qA, List.cons_append, List.nil_append, qd, Bool.and_eq_true] at h
   cases v with
   | ints k' x =>
    have sh := qbH (sc := sc) (a + 1) (b + 1) hk.2 h.2 (fun h => by have := hs h; simp only [List.all_cons, Bool.and_eq_true] at this; exact this.2)
    obtain ⟨i1, i2, i3, i4, i5, i6⟩ := sh
    have e : ∀ c, qg c (.ow k :: ks) (.ints k' x :: l) = (.own c :: (qg (c + 1) ks l).1, .ints k' x true :: (qg (c + 1) ks l).2.1, (qg (c + 1) ks l).2.2) := fun c => rfl
    rw [e, e]
    refine ⟨by simp [i1], i2, i3, fun z hz => ?_, by simp [i5], fun j y hy => ?_⟩
    ·rcases List.mem_cons.1 hz with rfl | hz
     ·trivial
     ·exact i4 z hz
    ·cases j with
     | zero =>
      simp at hy; subst hy
      exact ⟨_, rfl, .inr (.inr (.inl ⟨0, by simp, .inl ⟨rfl, rfl⟩⟩))⟩
     | succ j =>
      obtain ⟨y', h1, h2⟩ := i6 j y (by simpa using hy)
      exact ⟨y', by simpa using h1, by simpa using h2.up⟩
   | _ => cases h.1
 | .bx js :: ks, l, a, b, hk, h, hs => by
  simp only [List.all_cons, Bool.and_eq_true] at hk
  simp only [qo, qA, List.append_assoc] at h
  obtain ⟨h1, h2⟩ := qaO h
  have sh := qbH (sc := sc) (a + 1) (b + 1) hk.2 h2 (fun h => by have := hs h; simp only [List.all_cons, Bool.and_eq_true] at this; exact this.2)
  obtain ⟨i1, i2, i3, i4, i5, i6⟩ := sh
  have hsc : sc = false := by
   cases sc with
   | false => rfl
   | true => have := hs rfl; simp [Kx.scal] at this
  have e : ∀ c, qg c (.bx js :: ks) l = (.ptr c 0 :: (qg (c + 1) ks (l.drop js.length)).1, .cells (l.take js.length) :: (qg (c + 1) ks (l.drop js.length)).2.1, (qg (c + 1) ks (l.drop js.length)).2.2) := fun c => by cases l <;> rfl
  rw [e, e]
  refine ⟨by simp [i1], i2, i3, fun z hz => ?_, by simp [i5], fun j y hy => ?_⟩
  ·rcases List.mem_cons.1 hz with rfl | hz
   ·exact ⟨hsc, fun z hz => (qcd (sc := false) h1 (fun h => by cases h) z hz).1⟩
   ·exact i4 z hz
  ·cases j with
   | zero =>
    simp at hy; subst hy
    exact ⟨_, rfl, .inr (.inr (.inl ⟨0, by simp, .inr ⟨rfl, rfl⟩⟩))⟩
   | succ j =>
    obtain ⟨y', h1, h2⟩ := i6 j y (by simpa using hy)
    exact ⟨y', by simpa using h1, by simpa using h2.up⟩
 | .ao p k q :: ks, l, a, b, hk, h, hs => by
  simp only [List.all_cons, Bool.and_eq_true] at hk
  simp only [qo, qA, List.append_assoc, List.cons_append] at h
  obtain ⟨h1, h2⟩ := qaO h
  generalize hd : l.drop p.length = d at h2
  cases d with
  | nil => cases h2
  | cons v m =>
   simp only [qd, Bool.and_eq_true] at h2
   obtain ⟨h3, h4⟩ := qaO h2.2
   cases v with
   | ints k' x =>
    have sh := qbH (sc := sc) (a + 1) (b + 1) hk.2 h4 (fun h => by have := hs h; simp only [List.all_cons, Bool.and_eq_true] at this; exact this.2)
    obtain ⟨i1, i2, i3, i4, i5, i6⟩ := sh
    have e : ∀ c, qg c (.ao p k q :: ks) l = (.agg (l.take p.length ++ .own c :: m.take q.length) :: (qg (c + 1) ks (m.drop q.length)).1, .ints k x true :: (qg (c + 1) ks (m.drop q.length)).2.1, (qg (c + 1) ks (m.drop q.length)).2.2) := fun c => qet hd
    rw [e, e]
    refine ⟨by simp [i1], i2, i3, fun z hz => ?_, by simp [i5], fun j y hy => ?_⟩
    ·rcases List.mem_cons.1 hz with rfl | hz
     ·trivial
     ·exact i4 z hz
    ·cases j with
     | zero =>
      simp at hy; subst hy
      have hsc : sc = true → p.all Kd.scal = true ∧ q.all Kd.scal = true := fun h => by
       have := hs h
       simp only [List.all_cons, Bool.and_eq_true, Kx.scal] at this
       exact this.1
      refine ⟨_, rfl, .inr (.inr (.inr ⟨_, _, 0, by simp, rfl, rfl, fun z hz => ?_⟩))⟩
      rcases List.mem_append.1 hz with hz | hz
      ·exact qcd h1 (fun h => (hsc h).1) z hz
      ·exact qcd h3 (fun h => (hsc h).2) z hz
     | succ j =>
      obtain ⟨y', h1, h2⟩ := i6 j y (by simpa using hy)
      exact ⟨y', by simpa using h1, by simpa using h2.up⟩
   | _ => cases h2.1
 | .bxo _ _ _ :: _, _, _, _, hk, _, _ => by simp [qan] at hk
 | .al _ :: _, _, _, _, hk, _, _ => by simp [qan] at hk
 | .ip _ :: _, _, _, _, hk, _, _ => by simp [qan] at hk
 | .cl _ _ :: _, _, _, _, hk, _, _ => by simp [qan] at hk
 | .bo _ :: _, _, _, _, hk, _, _ => by simp [qan] at hk
 | .bb _ :: _, _, _, _, hk, _, _ => by simp [qan] at hk
theorem qf4 {M M' : Mem} {φ φ' : Plc} {sc : Bool} {a b m : Nat} {y y' : V} {v : Value} (h : qbv sc a b m y y') (hT : ∀ u z, Okl sc z → RL M φ u z → RL M' φ' u z) (hp : ∀ i, i < m → φ' (b + i) = φ (a + i))
  (hv : RA M φ v y) : RA M' φ' v y' := by
 rcases h with ⟨rfl, hok⟩ | ⟨l, rfl, rfl, hl⟩ | ⟨i, hi, ⟨rfl, rfl⟩ | ⟨rfl, rfl⟩⟩ | ⟨lp, lq, i, hi, rfl, rfl, hl⟩
 rotate_left 4
 ·obtain ⟨ar, e, hs, hg⟩ := hv
  refine ⟨ar, e, by rw [hs]; simp, fun j z hz => ?_⟩
  by_cases h1 : j < lp.length
  ·rw [List.getElem?_append_left h1] at hz
   obtain ⟨u, h2, h3⟩ := hg j z (by rw [List.getElem?_append_left h1]; exact hz)
   exact ⟨u, h2, hT _ _ (hl z (List.mem_append_left _ (List.mem_of_getElem? hz))) h3⟩
  ·rw [List.getElem?_append_right (by omega)] at hz
   cases hj : j - lp.length with
   | zero =>
    rw [hj] at hz
    simp at hz; subst hz
    obtain ⟨u, h2, p, h3, h4⟩ := hg j (.own (a + i)) (by rw [List.getElem?_append_right (by omega), hj]; rfl)
    exact ⟨u, h2, p, by rw [hp i hi]; exact h3, h4⟩
   | succ n =>
    rw [hj] at hz
    have hz' : lq[n]? = some z := by simpa using hz
    obtain ⟨u, h2, h3⟩ := hg j z (by rw [List.getElem?_append_right (by omega), hj]; simpa using hz')
    exact ⟨u, h2, hT _ _ (hl z (List.mem_append_right _ (List.mem_of_getElem? hz'))) h3⟩
 ·rw [qbP (qg4 hok.1)] at hv ⊢
  exact hT _ _ hok hv
 ·obtain ⟨ar, e, hs, hg⟩ := hv
  refine ⟨ar, e, hs, fun j z hz => ?_⟩
  obtain ⟨u, h1, h2⟩ := hg j z hz
  exact ⟨u, h1, hT _ _ (hl z (List.mem_of_getElem? hz)) h2⟩
 ·obtain ⟨p, h1, h2⟩ := hv
  exact ⟨p, by rw [hp i hi]; exact h1, h2⟩
 ·obtain ⟨p, h1, h2⟩ := hv
  exact ⟨p, by rw [hp i hi]; exact h1, h2⟩
theorem qhZ {sc : Bool} {a b m : Nat} {y y' : V} (h : qbv sc a b m y y') : qbD y = false ∧ qbD y' = false := by
 rcases h with ⟨rfl, hok⟩ | ⟨l, rfl, rfl, hl⟩ | ⟨i, hi, ⟨rfl, rfl⟩ | ⟨rfl, rfl⟩⟩ | ⟨lp, lq, i, hi, rfl, rfl, hl⟩
 rotate_left 4
 ·exact ⟨rfl, rfl⟩
 ·have := hok.1
  constructor <;> (cases y <;> first | rfl | cases this)
 ·exact ⟨rfl, rfl⟩
 ·exact ⟨rfl, rfl⟩
 ·exact ⟨rfl, rfl⟩
theorem qhQ {M M' : Mem} {φ φ' : Plc} {sc : Bool} {a b m : Nat} {ys ys' : List V} {v : Value} (hlen : ys'.length = ys.length) (h : ∀ (j : Nat) y, ys[j]? = some y → ∃ y', ys'[j]? = some y' ∧ qbv sc a b m y y')
  (hT : ∀ u z, Okl sc z → RL M φ u z → RL M' φ' u z) (hp : ∀ i, i < m → φ' (b + i) = φ (a + i)) (hv : RV M φ v (qaY ys)) : RV M' φ' v (qaY ys') := by
 match ys, ys', hlen, h, hv with
 | [y], [y'], _, h, hv =>
  obtain ⟨z, hz, hr⟩ := h 0 y rfl
  simp at hz; subst hz
  obtain ⟨t1, t2⟩ := qhZ hr
  rw [qaY, qb9 t1] at hv
  rw [qaY, qb9 t2]
  exact qf4 hr hT hp hv
 | [], [], _, _, hv =>
  obtain ⟨ar, e, hs, _⟩ := hv
  exact ⟨ar, e, hs, fun j y hy => by simp at hy⟩
 | x :: y :: ys, x' :: y' :: ys', hlen, h, hv =>
  obtain ⟨ar, e, hs, hg⟩ := hv
  refine ⟨ar, e, by rw [hs]; exact hlen.symm, fun j z hz => ?_⟩
  have hj : j < (x :: y :: ys).length := by have := (List.getElem?_eq_some_iff.1 hz).1; omega
  obtain ⟨u, h1, h2⟩ := hg j _ (List.getElem?_eq_getElem hj)
  obtain ⟨z', hz', hr⟩ := h j _ (List.getElem?_eq_getElem hj)
  rw [hz] at hz'
  cases hz'
  exact ⟨u, h1, qf4 hr hT hp h2⟩
theorem qbt {B : Nat → Blk} {U : List (Nat × Blk)} : ∀ {bs : List Blk} {n id : Nat}, qp (qaj n bs ++ U) B id = if n ≤ id ∧ id < n + bs.length then (bs[id - n]?).getD .gone else qp U B id
 | [], n, id => by rw [if_neg (by simp only [List.length_nil]; omega)]; rfl
 | b :: r, n, id => by
  rw [qaj, List.cons_append, qdy, qbt]
  by_cases h : id = n
  ·subst h
   rw [if_pos rfl, if_pos (by simp)]
   simp [Nat.sub_self]
  ·rw [if_neg h]
   by_cases h2 : n + 1 ≤ id ∧ id < n + 1 + r.length
   ·rw [if_pos h2, if_pos (by simp only [List.length_cons]; omega), show id - n = (id - (n + 1)) + 1 by omega]
    simp
   ·rw [if_neg h2, if_neg (by simp only [List.length_cons]; omega)]
theorem qfl {B B' : Nat → Blk} : ∀ {ns : List Nat}, (∀ id ∈ ns, B' id = B id) → qT B ns = qT B' ns
 | [], _ => rfl
 | a :: r, h => by
  unfold qT
  rw [h a (by simp), qfl (fun id hid => h id (by simp [hid]))]
theorem qgI {B : Nat → Blk} {k : Option IntKind} {kx : Kx} {x : V} {a : Ar} (h : qac B true k kx x = some a) : ∀ id ∈ a.ns, id ∈ qG x := by
 cases kx with
 | lf kd =>
  obtain ⟨y, hy, h1⟩ := qi (show (qbA B k kd x).ob (fun x' => bc (qF kd x') (some (⟨[x'], [], [], [], qai x⟩ : Ar)) none) = some a from h)
  obtain ⟨hl, h2⟩ := qf h1
  cases h2
  intro id hid
  cases x <;> simp [qai] at hid <;> simp [qG, hid]
 | ag ks =>
  simp only [qac] at h
  split at h
  ·rename_i l
   obtain ⟨y, hy, h1⟩ := qi h
   obtain ⟨hl, h2⟩ := qf h1
   cases h2
   exact fun id hid => hid
  ·cases h
 | ip ks =>
  simp only [qac] at h
  split at h
  ·obtain ⟨hl, h2⟩ := qf h
   cases h2
   exact fun id hid => by cases hid
  ·cases h
 | cl f kss =>
  simp only [qac] at h
  split at h
  ·obtain ⟨hf, h0⟩ := qf h
   obtain ⟨y, hy, h1⟩ := qi h0
   cases h1
   exact fun id hid => by cases hid
  ·cases h
 | _ => cases h
theorem qeX {B : Nat → Blk} {T : Nat → Option IntKind} : ∀ {tys : List Nat} {ps : List Kx} {vs : List V} {q : Ar}, qa8 T B true tys ps vs = some q → ∀ id ∈ q.ns, ∃ x ∈ vs, id ∈ qG x
 | _, [], [], q, h, id, hid => by cases h; cases hid
 | tys, k :: ks, x :: vs, q, h, id, hid => by
  obtain ⟨a, q', ha, hq', rfl⟩ := qcK h
  simp only [List.mem_append] at hid
  rcases hid with hid | hid
  ·exact ⟨x, by simp, qgI ha id hid⟩
  ·obtain ⟨y, h1, h2⟩ := qeX hq' id hid
   exact ⟨y, by simp [h1], h2⟩
 | _, [], _ :: _, _, h, _, _ => by cases h
 | _, _ :: _, [], _, h, _, _ => by cases h
def qbG (p : Pl) : Plc := fun id => if id = 0 then some p else none
theorem qcu {p q : Pl} {id : Nat} (h : qbG p id = some q) : id = 0 ∧ q = p := by
 unfold qbG at h; split at h
 ·cases h; exact ⟨‹_›, rfl⟩
 ·cases h
theorem qej {b : Blk} {id : Nat} : qc [(0, b)] id = if id = 0 then b else .gone := by
 have := qbZ [(0, b)] [] id
 rw [List.append_nil] at this
 rw [this, qZ]
 rfl
theorem qhk {M1 : Mem} {φ : Plc} {B1 : Nat → Blk} {w : World} {x : Nat} {p p0 : Pl} {blk : Blk} (hr : Rel M1 φ B1 w) (hp : φ x = some p) (ha : qs (B1 x) = true) (hs : Sub p0 p) (hb : ∀ φ0, RB M1 φ0 w p0 blk) (hi1 : qw (B1 x) = false) (hi2 : qw blk = false) :
  Rel M1 (qbG p0) (qc [(0, blk)]) w := by
 refine ⟨hr.holds, fun id q hq => ?_, fun id q hq _ => ?_, fun id id' q q' hne hq hq' _ _ => ?_⟩
 ·obtain ⟨rfl, rfl⟩ := qcu hq
  rw [qej, if_pos rfl]
  exact hb _
 ·obtain ⟨rfl, rfl⟩ := qcu hq
  intro j hj
  obtain ⟨i, hi, e⟩ := hs.in hj
  have := hr.own x p hp ha i hi
  rw [hs.1, ← e, qej, if_pos rfl, hi2]
  rw [hi1] at this
  exact this
 ·exact absurd ((qcu hq).1.trans (qcu hq').1.symm) hne
theorem qhh {M1 : Mem} {φ : Plc} {B1 : Nat → Blk} {w : World} (hr : Rel M1 φ B1 w) : Rel M1 (fun _ => none) (qc []) w :=
 ⟨hr.holds, fun id q hq => (by cases hq), fun id q hq _ => (by cases hq), fun id id' q q' hne hq hq' _ _ => (by cases hq)⟩
theorem qes {p0 : Pl} {B : Nat → Blk} {b o : Nat} (h : qK (qbG p0) B b o) : ∃ j, j < p0.c ∧ b = p0.b ∧ o = p0.s + j := by
 obtain ⟨id, q, j, hq, _, hj, rfl, rfl⟩ := h
 obtain ⟨rfl, rfl⟩ := qcu hq
 exact ⟨j, hj, rfl, rfl⟩
section
variable {C : Cfg} {P : Program} {M0 : Mem} {B : Nat → Blk} {nx : Nat} {dr : Bool} {R : Type} {r : R} {K : KV R}
def qeM (P : Program) (M0 : Mem) (B : Nat → Blk) (nx : Nat) (dr : Bool) (vs : List V) (f : Nat) (X : V) (U : List (Nat × Blk)) (n' : Nat) : Prop :=
 nx ≤ n' ∧ ∀ M φ B' w (args : List Value), Ext M0 M → Rel M φ B' w → args.length = vs.length → (∀ (i : Nat) (v : Value) (x : V), args[i]? = some v → vs[i]? = some x → RV M φ v x) →
  (∀ x ∈ vs, ∀ id ∈ qG x, B' id = B id) → (dr = false → B' = B) → (∀ id, nx ≤ id → id < n' → φ id = none) →
  Calls P f args.toArray w fun e w' => ∃ v, e = .returned v ∧ qX M φ B' w X U nx n' v w'
theorem qgF {x : Nat} {ns : List Nat} (h : qdL [x] ns = true) : x ∉ ns := by
 intro hm
 simp only [qdL, Bool.not_eq_true'] at h
 have : ns.any (Nat.beq x) = true := List.any_eq_true.2 ⟨x, hm, Nat.beq_refl x⟩
 rw [this] at h; cases h
theorem qgJ {B : Nat → Blk} {k : Option IntKind} {kx : Kx} {x : V} {a : Ar} (h : qac B true k kx x = some a) : a.pn = [] := by
 cases kx with
 | lf kd =>
  obtain ⟨y, hy, h1⟩ := qi (show (qbA B k kd x).ob (fun x' => bc (qF kd x') (some (⟨[x'], [], [], [], qai x⟩ : Ar)) none) = some a from h)
  obtain ⟨hl, h2⟩ := qf h1
  cases h2; rfl
 | ag ks =>
  simp only [qac] at h
  split at h
  ·obtain ⟨y, hy, h1⟩ := qi h
   obtain ⟨hl, h2⟩ := qf h1
   cases h2; rfl
  ·cases h
 | ip ks =>
  simp only [qac] at h
  split at h
  ·obtain ⟨hl, h2⟩ := qf h
   cases h2; rfl
  ·cases h
 | cl f kss =>
  simp only [qac] at h
  split at h
  ·obtain ⟨hf, h0⟩ := qf h
   obtain ⟨y, hy, h1⟩ := qi h0
   cases h1; rfl
  ·cases h
 | _ => cases h
theorem qgP {f : Nat} {F : Fun} {tys : List Nat} {vs : List V} {other : Option R} (hF : qR P M0 f F) (h : qdU C B nx tys vs dr F K other = some r) :
  other = some r ∨ ∃ X U n', K X U n' = some r ∧ qeM P M0 B nx dr vs f X U n' := by
 unfold qdU at h
 split at h
 rotate_left
 ·exact .inl h
 rename_i q hq
 right
 obtain ⟨hc, h1⟩ := qf h
 simp only [Bool.and_eq_true] at hc
 obtain ⟨hap, hdr⟩ := hc
 obtain ⟨rr, hrr, h2⟩ := Option.bind_eq_some_iff.1 h1
 generalize hou : qg nx F.S.rs (F.S.un rr) = ou at h2
 obtain ⟨ys, bs, rest⟩ := ou
 simp only at h2
 obtain ⟨W, hW, h3⟩ := qi h2
 refine ⟨_, _, _, h3, Nat.le_add_right _ _, fun M φ B' w args hM0 hr hlen hrv hB hseq hfresh => ?_⟩
 have hns : ∀ id ∈ q.ns, B' id = B id := fun id hid => by
  cases dr with
  | false => rw [hseq rfl]
  | true =>
   obtain ⟨x, hx, hi⟩ := qeX hq id hid
   exact hB x hx id hi
 obtain ⟨M1, hr1, hs1⟩ := qbU hr q.ns
 have ain : qbO M M1 φ B B' (fun id => if id ∈ q.ns then qn (B' id) else B' id) w vs args q.ns :=
  ⟨hs1.mem, hr, hr1, fun id hid => by simp only [if_pos hid]; rw [hns id hid], hB, hlen, hrv⟩
 have hfz : ∀ id, qp (qT B q.ns) B' id = if id ∈ q.ns then qn (B' id) else B' id := fun id => by rw [qfl hns, qdz]
 have hfresh' : ∀ id, nx ≤ id → id < nx + bs.length → φ id = none := hfresh
 have back : ∀ {φc : Plc} {nxc x : Nat} {xb : Blk} {v : Value} {w' : World} {M' : Mem} {φ' : Plc} {Bc Bc' : Nat → Blk} {V0 : List (Nat × Blk)},
   RV M' φ' v (qaY (qg nxc F.S.rs (F.S.un rr)).1) → qd (qo F.S.rs ++ F.S.wb) (F.S.un rr) = true → Rel M' φ' Bc' w' → Stp M1 φc Bc w M' φ' Bc' w' → qr φc φ' →
   Bc' = qp (qaj nxc (qg nxc F.S.rs (F.S.un rr)).2.1 ++ V0) (fun _ => .gone) →
   ((∀ b o, ¬ qK φc Bc b o) ∧ W ++ q.U = [] ∨ W ++ q.U = [(x, xb)] ∧ x ∉ q.ns ∧
    ∀ (Ma : Mem), ((F.S.scal = true → F.S.wb.all Kd.scal = true) → ∀ u z, z ∈ rest → RL M' φ' u z → RL Ma (q7 φ φ' nx nxc bs.length) u z) → qdF φ φc φ' B' Bc Bc' Ma (q7 φ φ' nx nxc bs.length) w' nxc x xb) →
   qX M φ B' w (qaY ys) (qaj nx bs ++ W ++ q.U ++ bc F.S.scal [] (qT B q.ns)) nx (nx + bs.length) v w' := by
  intro φc nxc x xb v w' M' φ' Bc Bc' V0 hv hlf hr' hst hpe hBc' hx
  have hscal : F.S.scal = true → F.S.rs.all Kx.scal = true := fun hs => by
   unfold Sig.scal at hs
   simp only [Bool.and_eq_true] at hs
   exact hs.1
  obtain ⟨o1, o2, o3, o4, o5, o6⟩ := qbH (sc := F.S.scal) nxc nx hF.rs hlf hscal
  rw [hou] at o1 o2 o5 o6
  simp only at o1 o2 o5 o6
  have hrest : (F.S.scal = true → F.S.wb.all Kd.scal = true) → ∀ z ∈ rest, Okl F.S.scal z := by
   rw [o2]
   exact qcd o3
  have hbsI : ∀ i, i < bs.length → qeo F.S.scal (Bc' (nxc + i)) := fun i hi => by
   rw [hBc', qbt, if_pos (by rw [← o1]; omega), ← o1, show nxc + i - nxc = i by omega]
   have hg := List.getElem?_eq_getElem hi
   rw [hg, Option.getD_some]
   exact o4 _ (by rw [← o1]; exact List.getElem_mem hi)
  have hbs : ∀ i, i < bs.length → Bc' (nxc + i) = (bs[i]?).getD .gone := fun i hi => by
   rw [hBc', qbt, if_pos (by rw [← o1]; omega), ← o1, show nxc + i - nxc = i by omega]
  have hpi : ∀ i, i < bs.length → q7 φ φ' nx nxc bs.length (nx + i) = φ' (nxc + i) := fun i hi => by
   unfold q7
   rw [if_pos (by omega), show nx + i - nx = i by omega]
  have blocks : ∀ {Bb : Nat → Blk} {x : Nat} {xb : Blk}, ((W ++ q.U = [] ∧ xb = Bb x) ∨ W ++ q.U = [(x, xb)]) → qp (qaj nx bs ++ (W ++ q.U)) Bb = qaK Bb Bc' nx nxc bs.length x xb := by
   intro Bb x xb hWU
   funext id
   rw [qbt]
   unfold qaK
   by_cases hid : nx ≤ id ∧ id < nx + bs.length
   ·rw [if_pos hid, if_pos hid, hbs _ (by omega)]
   ·rw [if_neg hid, if_neg hid]
    rcases hWU with ⟨e, e2⟩ | e
    ·rw [e]
     by_cases hx : id = x
     ·subst hx; rw [if_pos rfl, e2]; rfl
     ·rw [if_neg hx]; rfl
    ·rw [e, qZ]
  have fin : ∀ {Mb Ma : Mem} {Bb : Nat → Blk}, Rel Mb φ Bb w → Ext Mb Ma → Ext Ma M' → (∀ b o v, Ma b o = some v → Mb b o = some v ∨ qK φc Bc b o ∨ w.heap.size ≤ b) →
    (∀ u z, Okl F.S.scal z → RL M' φ' u z → RL Ma (q7 φ φ' nx nxc bs.length) u z) → (∀ id, Bb id = if F.S.scal = true then B' id else if id ∈ q.ns then qn (B' id) else B' id) → Stp M φ B' w Mb φ Bb w →
    qX M φ B' w (qaY ys) (qaj nx bs ++ W ++ q.U ++ bc F.S.scal [] (qT B q.ns)) nx (nx + bs.length) v w' := by
   intro Mb Ma Bb hrb he1 he2 hn hT hBb hsb
   have key : ∀ {x : Nat} {xb : Blk}, ((W ++ q.U = [] ∧ xb = Bb x) ∨ W ++ q.U = [(x, xb)]) → qdF φ φc φ' Bb Bc Bc' Ma (q7 φ φ' nx nxc bs.length) w' nxc x xb →
     qX M φ B' w (qaY ys) (qaj nx bs ++ W ++ q.U ++ bc F.S.scal [] (qT B q.ns)) nx (nx + bs.length) v w' := by
    intro x xb hWU hh
    have hbr : ∀ i p, i < bs.length → φ' (nxc + i) = some p → RB Ma (q7 φ φ' nx nxc bs.length) w' p (Bc' (nxc + i)) := fun i p hi hp => by
     have h1 := hbsI i hi
     have h2 := hr'.blk _ p hp
     cases e : Bc' (nxc + i) with
     | ints k l t => rw [e] at h2; exact h2
     | cells l =>
      rw [e] at h1 h2
      obtain ⟨hsc, hl⟩ := h1
      obtain ⟨b1, b2, b3⟩ := h2
      refine ⟨b1, b2, fun j y hy => ?_⟩
      obtain ⟨u, hu, hr⟩ := b3 j y hy
      exact ⟨u, hu, hT u y ⟨hl y (List.mem_of_getElem? hy), fun h => by rw [hsc] at h; cases h⟩ hr⟩
     | _ => rw [e] at h1; exact h1.elim
    obtain ⟨k1, k2, k3⟩ := qgK (m := bs.length) hrb hfresh' hr' hst.kept (fun b o h => hst.own b o h) he1 he2 hn (fun i hi => qhe (hbsI i hi)) hbr hh
    have eB : qp (qaj nx bs ++ W ++ q.U ++ bc F.S.scal [] (qT B q.ns)) B' = qaK Bb Bc' nx nxc bs.length x xb := by
     rw [← blocks hWU]
     funext id
     rw [List.append_assoc (qaj nx bs), qeK]
     congr 1
     funext id
     rw [hBb]
     cases hsc : F.S.scal
     ·rw [if_neg (by decide)]; exact hfz id
     ·rw [if_pos rfl]; rfl
    refine ⟨Ma, _, qhQ o5 o6 hT (fun i hi => hpi i (by rw [o1]; exact hi)) hv, by rw [eB]; exact k1, by rw [eB]; exact hsb.trans k2, fun id hid => ?_, k3⟩
    unfold q7
    rw [if_neg (by omega)]
   rcases hx with ⟨h1, h2⟩ | ⟨h1, h2, h3⟩
   ·exact key (x := 0) (xb := Bb 0) (.inl ⟨h2, rfl⟩) (.none h1 rfl)
   ·refine key (.inr h1) ?_
    have hBx : Bb x = B' x := by rw [hBb]; simp [h2]
    cases h3 Ma (fun hws u z hz h => hT u z (hrest hws z hz) h) with
    | none a e => exact .none a (e.trans hBx.symm)
    | gone p a b c d => exact .gone p a (by rw [hBx]; exact b) c d
    | lent p p0 a b c d e f n1 n2 n3 g i => exact .lent p p0 a (by rw [hBx]; exact b) c d e f (by rw [hBx]; exact n1) n2 n3 g i
  by_cases hsc : F.S.scal = true
  rotate_left
  ·refine fin (Mb := M1) (Ma := M') (Bb := fun id => if id ∈ q.ns then qn (B' id) else B' id) hr1 hst.mem (Ext.refl M') hst.new ?_ (fun id => by rw [if_neg hsc]) hs1
   exact fun u z hz h => qcI hz.1 h
  ·refine fin (Mb := M) (Ma := M) (Bb := B') hr (Ext.refl M) (hs1.mem.trans hst.mem) (fun b o v h => .inl h) ?_ (fun id => by rw [if_pos hsc]) (Stp.refl M φ B' w)
   exact fun u z hz h => qgz (hz.2 hsc) h
 have hargsz : ∀ {ps : List Kx}, args.length = ps.length → args.toArray.size = ps.length := fun h => by simpa using h
 match hpn : q.pn, hap with
 | [], _ =>
  have ap := qdM hq hpn ain
  obtain ⟨t', e1, e2, e3⟩ := ap.enc 0 q8 []
  rw [List.append_nil] at e1
  have hEnt : Ent F.S q.ls = { q8 with t := t' } := e1
  have cin : qdD F.S q.ls M1 (fun _ => none) w args.toArray := by
   refine ⟨by rw [hEnt]; exact qhh hr1, hargsz ap.len, fun i v hv => ?_, fun _ _ => rfl⟩
   rw [hEnt]
   have := e3 i v (by simpa using hv) (fun _ => none)
   rwa [Nat.zero_add] at this
  refine (hF.call _ _ _ _ _ _ (hM0.trans hs1.mem) cin hrr).mono fun e w' ⟨v, he, hlf, M', φ', c1, c2, c3, c4⟩ => ⟨v, he, ?_⟩
  refine back (x := 0) (xb := .gone) c1 hlf c2 c3 c4 rfl (.inl ⟨fun b o h => ?_, ?_⟩)
  ·obtain ⟨id, p, j, hp, _⟩ := h; cases hp
  ·rw [ap.lent] at hW
   unfold qby at hW
   split at hW
   ·rename_i heq; cases heq
   ·rename_i heq; cases heq
   ·rename_i heq; cases heq
   ·cases hW; rw [ap.U]; rfl
   ·cases hW
 | [x], hap =>
  obtain ⟨blk, p, p0, sp⟩ := qeY hq hpn ain
  have hx : x ∉ q.ns := qgF hap
  obtain ⟨t', e1, e2, e3⟩ := sp.enc 0 q8 [] rfl
  rw [List.append_nil] at e1
  have hEnt : Ent F.S q.ls = { t := t', O := [(0, blk)], nx := 1 } := e1
  have hBx : B' x = B x := by
   cases dr with
   | false => rw [hseq rfl]
   | true => exact absurd hpn (by
     have : ∀ {tys : List Nat} {ps : List Kx} {vs : List V} {q : Ar}, qa8 (qa6 C) B true tys ps vs = some q → q.pn = [] := by
      intro tys ps
      induction ps generalizing tys with
      | nil => intro vs q h; cases vs <;> cases h; rfl
      | cons k ks ih =>
       intro vs q h
       cases vs with
       | nil => cases h
       | cons v vs =>
        obtain ⟨a, q', ha, hq', rfl⟩ := qcK h
        have : a.pn = [] := qgJ ha
        simp [this, ih hq']
     rw [this hq]
     simp)
  have al' : qs (B' x) = true := by rw [hBx]; exact sp.al
  have al1 : qs (if x ∈ q.ns then qn (B' x) else B' x) = true := by rw [if_neg hx]; exact al'
  have cin : qdD F.S q.ls M1 (qbG p0) w args.toArray := by
   refine ⟨by rw [hEnt]; exact qhk hr1 sp.pl al1 sp.sub sp.rb (by rw [if_neg hx, hBx]; exact sp.nit) sp.bnit, hargsz sp.len, fun i v hv => ?_, fun id hid => ?_⟩
   ·rw [hEnt]
    have := e3 i v (by simpa using hv) (qbG p0) rfl
    rwa [Nat.zero_add] at this
   ·rw [hEnt] at hid
    unfold qbG
    rw [if_neg (by simp only at hid; omega)]
  refine (hF.call _ _ _ _ _ _ (hM0.trans hs1.mem) cin hrr).mono fun e w' ⟨v, he, hlf, M', φ', c1, c2, c3, c4⟩ => ⟨v, he, ?_⟩
  rw [hEnt] at c1 c2 c3
  rcases sp.kind with ⟨k1, k2, k3, k4⟩ | ⟨k1, kx, k2, k3, k4, k5, k6⟩
  ·have hW0 : W = [] := by
    rw [k3] at hW
    unfold qby at hW
    split at hW
    ·rename_i heq; cases heq
    ·rename_i heq; cases heq
    ·rename_i heq; cases heq
    ·cases hW; rfl
    ·cases hW
   refine back (x := x) (xb := .gone) c1 hlf c2 c3 c4 rfl (.inr ⟨by rw [hW0, k1]; rfl, hx, fun Ma _ => .gone p sp.pl al' (fun b o h => ?_) rfl⟩)
   obtain ⟨j, hj, e1, e2⟩ := qes h
   obtain ⟨i, hi, e⟩ := sp.sub.in hj
   exact ⟨i, hi, e1.trans sp.sub.1, by omega⟩
  ·obtain ⟨o1, o2, o3, o4, o5, o6⟩ := qbH (sc := false) 1 nx hF.rs hlf (fun h => by cases h)
   rw [hou] at o2
   simp only at o2
   rw [hF.wb, k4, ← o2] at o3
   obtain ⟨xb, blk', l1, l2, l3, l5, l6, l4⟩ := k6 rest W hW o3
   refine back (x := x) (xb := xb) c1 hlf c2 c3 c4 rfl (.inr ⟨by rw [l1, k1]; rfl, hx, fun Ma hT => ?_⟩)
   have hB0 : qaf F.S 1 rr 0 = blk' := by
    unfold qaf
    rw [qbt, if_neg (by omega), k3, ← o2, l2, qZ, if_pos rfl]
   have hp0 : φ' 0 = some p0 := c4 0 p0 rfl
   refine .lent p p0 sp.pl al' sp.sub hp0 (by rw [hB0]; exact l3) Nat.zero_lt_one (by rw [hBx]; exact sp.nit) l5 (by rw [hB0]; exact l6) (fun b o h => qes h) (l4 M' φ' w' Ma _ (fun l hl => hT fun hs => ?_) (by have := c2.blk 0 p0 hp0; rwa [hB0] at this) fun j v hj hno hv => ?_)
   ·subst hl
    rw [hF.wb, k4]
    unfold Sig.scal at hs
    simp only [Bool.and_eq_true] at hs
    exact List.all_eq_true.1 hs.2 _ k5
   ·exact c3.kept.cell _ _ _ hv fun h => by
     obtain ⟨i, hi, _, e⟩ := qes h
     omega
 | _ :: _ :: _, hap => cases hap
theorem qdT {f : Nat} {tys : List Nat} {vs : List V} : ∀ {Fs : List Fun}, (∀ F ∈ Fs, qR P M0 f F) → qcO C B nx tys vs dr K Fs = some r → ∃ X U n', K X U n' = some r ∧ qeM P M0 B nx dr vs f X U n'
 | [], _, h => by cases h
 | F :: rest, hF, h => by
  rcases qgP (hF F (by simp)) h with h | h
  ·exact qdT (fun F hf => hF F (by simp [hf])) h
  ·exact h
end
theorem qc6 {w : World} {k : Nat} {s : ByteArray} {p q : Nat} (h : w.heap[k]? = some (.stringIter s p)) (a : Addr) : (w.iterAt k s q).cell? a = w.cell? a := by
 by_cases e : a.block = k
 ·simp only [World.cell?, e, h, Lib.iterAt_heap w k s p q h]
 ·simp only [World.cell?, Lib.iterAt_other w k a.block s q e]
theorem qec {w : World} {k : Nat} {s : ByteArray} {p q : Nat} (h : w.heap[k]? = some (.stringIter s p)) (a : Addr) : (w.iterAt k s q).frozen? a = w.frozen? a := by
 by_cases e : a.block = k
 ·simp only [World.frozen?, e, h, Lib.iterAt_heap w k s p q h]
 ·simp only [World.frozen?, Lib.iterAt_other w k a.block s q e]
theorem qg8 {M : Mem} {φ : Plc} {B : Nat → Blk} {w : World} {id : Nat} {p : Pl} {s : ByteArray} {pos pos' : Int} (hr : Rel M φ B w) (hφ : φ id = some p) (hB : B id = .iter s pos) (h0 : 0 ≤ pos') :
  Rel M φ (fun x => if x = id then .iter s pos' else B x) (w.iterAt p.b s pos'.toNat) ∧
  Stp M φ B w M φ (fun x => if x = id then .iter s pos' else B x) (w.iterAt p.b s pos'.toNat) := by
 have hb := hr.blk id p hφ
 rw [hB] at hb
 obtain ⟨hs, hc, hp, hw⟩ := hb
 have ha : qs (B id) = true := by rw [hB]; rfl
 have hX : qK φ B p.b 0 := ⟨id, p, 0, hφ, ha, by omega, rfl, by omega⟩
 have hit : ∀ b s' q, b ≠ p.b → w.heap[b]? = some (.stringIter s' q) → (w.iterAt p.b s pos'.toNat).heap[b]? = some (.stringIter s' q) := fun b s' q hne h => by rw [Lib.iterAt_other _ _ _ _ _ hne]; exact h
 have hkp : Kp (qK φ B) w (w.iterAt p.b s pos'.toNat) := by
  refine ⟨rfl, rfl, rfl, by rw [Lib.iterAt_size]; exact Nat.le_refl _, fun k _ hx => Lib.iterAt_other _ _ _ _ _ (fun e => hx 0 (e ▸ hX)), fun b o v hv _ => by rw [qc6 hw]; exact hv, fun b o v _ _ => qec hw _, fun b s' q hv hx => hit b s' q (fun e => hx (e ▸ hX)) hv⟩
 have other : ∀ x q, x ≠ id → φ x = some q → qs (B x) = true → 0 < q.c → q.s = 0 → q.b ≠ p.b := fun x q hx hq hal h0 hqs e =>
  hr.dis x id q p hx hq hφ hal ha 0 0 h0 (by omega) e (by omega)
 refine ⟨⟨fun b o v hv => by rw [qc6 hw]; exact hr.holds b o v hv, fun x q hq => ?_, fun x q hq hal => ?_, fun x x' q q' hne hq hq' hal hal' => ?_⟩, ⟨Ext.refl M, hkp, ?_, fun _ _ _ h => .inl h⟩⟩
 ·by_cases hx : x = id
  ·subst hx
   rw [hφ] at hq; cases hq
   simp only [if_true]
   exact ⟨hs, hc, h0, Lib.iterAt_heap w p.b s pos.toNat pos'.toNat hw⟩
  ·simp only [if_neg hx]
   refine (hr.blk x q hq).mono (Ext.refl M) (qr.refl φ) (fun _ j v _ hv => by rw [qc6 hw]; exact hv) (fun hi hqs hqc s' q' hv => hit _ _ _ ?_ hv)
   exact other x q hx hq (qfB hi) (by omega) hqs
 ·by_cases hx : x = id
  ·subst hx
   rw [hφ] at hq; cases hq
   simp only [if_true]
   have := hr.own x p hφ ha
   intro j hj
   obtain ⟨_, h2, h3⟩ := this j hj
   exact ⟨⟨by omega, s, _, Lib.iterAt_heap w p.b s pos.toNat pos'.toNat hw⟩, by rw [qec hw]; exact h2, h3⟩
  ·simp only [if_neg hx] at hal ⊢
   intro j hj
   obtain ⟨h1, h2, h3⟩ := hr.own x q hq hal j hj
   refine ⟨?_, by rw [qec hw]; exact h2, h3⟩
   revert h1
   cases qw (B x) with
   | false => rintro ⟨u, hu⟩; exact ⟨u, by rw [qc6 hw]; exact hu⟩
   | true =>
    rintro ⟨e, s', p', h⟩
    refine ⟨e, s', p', hit _ _ _ (fun eb => ?_) h⟩
    exact hr.dis x id q p hx hq hφ hal ha j 0 hj (by omega) eb (by omega)
 ·have al : ∀ y, qs ((fun x => if x = id then Blk.iter s pos' else B x) y) = true → qs (B y) = true := fun y h => by
   by_cases e : y = id
   ·subst e; exact ha
   ·simp only [if_neg e] at h; exact h
  exact hr.dis x x' q q' hne hq hq' (al x hal) (al x' hal')
 ·rintro b o ⟨x, q, j, hq, hal, hj, rfl, rfl⟩
  refine .inl ⟨x, q, j, hq, ?_, hj, rfl, rfl⟩
  by_cases e : x = id
  ·subst e; exact ha
  ·simp only [if_neg e] at hal; exact hal
theorem qgn {P : Program} {t : Nat} {d : TypeDesc} (h : ∀ w : World, (underlying t).run P w = .ok d w) : P.underlying t = some d := by
 have h := h default
 unfold underlying at h
 cases e : P.underlying t with
 | none => simp [e, Sem.run_bind] at h
 | some d' => simp [e, Sem.run_bind] at h; rw [h]
theorem qB.kstr {P : Program} {t : Nat} {ti : TI} (I : qB P t ti) (h : ti.d = .str) : I.d = .string := by
 have := I.hk
 rw [h] at this
 revert this
 cases I.d <;> intro h <;> first | rfl | cases h
section
variable {C : Cfg} {P : Program} {g : Operand → V} {B : Nat → Blk} {nx : Nat} {dr : Bool} {dst : Option Tmp} {ty : TypeId} {pos : String} {after : Array Edge} {guard : Option (Nat × Bool)} {R : Type} {r : R} {K : KV R}
theorem qhL {t : TypeId} {x : Operand} (hT : TOk P C.T) (h : ql C g B nx dr ⟨dst, .range t x, ty, pos, after, guard⟩ K = some r) :
  ∃ X U n', K X U n' = some r ∧ qh C P g B nx dr ⟨dst, .range t x, ty, pos, after, guard⟩ X U n' := by
 simp only [ql] at h
 split at h
 ·rename_i s hx
  obtain ⟨hs, h⟩ := qf h
  refine ⟨_, _, _, h, Nat.le_succ _, fun M φ B' w ρ hi hf => ?_⟩
  have hv := hi.args x (by simp [Op.operands])
  rw [hx] at hv
  have hv : ρ x = .string s := hv
  have e : (execOp ρ ⟨dst, .range t x, ty, pos, after, guard⟩).run P w = .ok (.value (.pointer (some ⟨w.heap.size, 0, none⟩))) (w.alloc (.stringIter s 0)) := by
   simp only [execOp, Instr.range, Sem.run_bind, qc5 hT hs, hv, Result.andThen_ok]
   rfl
  unfold qW
  rw [e]
  refine qdJ (p := ⟨w.heap.size, 0, 1, 0, 0, false⟩) hi.rel (hf nx (Nat.le_refl _) (Nat.lt_succ_self _)) (qt.refl w) rfl (fun j hj => ?_) (fun φ' _ _ => ?_) ⟨_, qaa, rfl⟩
  ·have hh : (w.alloc (.stringIter s 0)).heap[w.heap.size]? = some (.stringIter s 0) := by simp [World.alloc, -World.alloc_eq]
   have hj : j = 0 := by simp at hj; omega
   subst hj
   exact ⟨⟨rfl, s, 0, hh⟩, qed hh⟩
  ·exact ⟨rfl, rfl, Int.le_refl _, by simp [World.alloc, -World.alloc_eq]⟩
 ·cases h
theorem qhI {it : Operand} (h : ql C g B nx dr ⟨dst, .next it true, ty, pos, after, guard⟩ K = some r) :
  ∃ X U n', K X U n' = some r ∧ qh C P g B nx dr ⟨dst, .next it true, ty, pos, after, guard⟩ X U n' := by
 simp only [ql] at h
 split at h
 case h_2 => cases h
 rename_i id hx
 split at h
 case h_2 => cases h
 rename_i s p hB
 have what : ∀ {M φ B' w ρ}, qP C P g B dr ⟨dst, .next it true, ty, pos, after, guard⟩ M φ B' w ρ → ∃ q : Pl, φ id = some q ∧ B' id = .iter s p ∧ ρ it = .pointer (some ⟨q.b, 0, none⟩) ∧ w.heap[q.b]? = some (.stringIter s p.toNat) ∧ 0 ≤ p := fun {M φ B' w ρ} hi => by
  have hv := hi.args it (by simp [Op.operands])
  rw [hx] at hv
  obtain ⟨q, hq, hv⟩ := hv
  have hB' : B' id = .iter s p := by rw [← hB]; exact hi.agree id (qap (y := it) (by simp [Op.operands]) (by rw [hx]; simp [qG]))
  have hb := hi.rel.blk id q hq
  rw [hB'] at hb
  obtain ⟨h1, h2, h3, h4⟩ := hb
  exact ⟨q, hq, hB', by rw [hv, h1], h4, h3⟩
 by_cases hlt : p.toNat < s.size
 ·rw [if_pos hlt] at h
  refine ⟨_, _, _, h, Nat.le_refl _, fun M φ B' w ρ hi hf => ?_⟩
  obtain ⟨q, hq, hB', hv, hw, h0⟩ := what hi
  have e : (execOp ρ ⟨dst, .next it true, ty, pos, after, guard⟩).run P w = .ok (.value (.tuple #[.bool true, .int .i64 p, .int .i32 ((Utf8.decode s p.toNat).1 : Int)])) (w.iterAt q.b s (p.toNat + (Utf8.decode s p.toNat).2)) := by
   simp only [execOp, Sem.run_bind, hv, Lib.run_next_any_at w q.b s p.toNat ty hw hlt, Result.andThen_ok]
   rw [show ((p.toNat : Nat) : Int) = p by omega]
   rfl
  unfold qW
  rw [e]
  have e2 : p.toNat + (Utf8.decode s p.toNat).2 = (p + ((Utf8.decode s p.toNat).2 : Int)).toNat := by omega
  obtain ⟨k1, k2⟩ := qg8 (pos' := p + ((Utf8.decode s p.toNat).2 : Int)) hi.rel hq hB' (by omega)
  have eU : qp [(id, Blk.iter s (p + ((Utf8.decode s p.toNat).2 : Int)))] B' = fun x => if x = id then Blk.iter s (p + ((Utf8.decode s p.toNat).2 : Int)) else B' x := by
   funext z; rw [qZ]
  refine ⟨M, φ, ⟨_, rfl, rfl, fun j y hy => ?_⟩, by rw [eU, e2]; exact k1, by rw [eU, e2]; exact k2, fun _ _ => rfl, qr.refl φ⟩
  match j, hy with
  | 0, hy => cases hy; exact ⟨_, rfl, rfl⟩
  | 1, hy => cases hy; exact ⟨_, rfl, rfl, qbb _⟩
  | 2, hy => cases hy; exact ⟨_, rfl, rfl, fun hk => by cases hk⟩
  | j + 3, hy => simp at hy
 ·rw [if_neg hlt] at h
  refine ⟨_, _, _, h, qh.pure fun M φ B' w ρ hi => ?_⟩
  obtain ⟨q, hq, hB', hv, hw, h0⟩ := what hi
  refine ⟨.tuple #[.bool false], ?_, ⟨_, rfl, rfl, fun j y hy => ?_⟩⟩
  ·simp only [execOp, Sem.run_bind, hv, Lib.run_next_end_at w q.b s p.toNat ty hw hlt, Result.andThen_ok]
   rfl
  ·match j, hy with
   | 0, hy => cases hy; exact ⟨_, rfl, rfl⟩
   | j + 1, hy => simp at hy
theorem qhv {src dst' : TypeId} {x : Operand} (hT : TOk P C.T) (h : ql C g B nx dr ⟨dst, .convert src dst' x, ty, pos, after, guard⟩ K = some r) :
  ∃ X U n', K X U n' = some r ∧ qh C P g B nx dr ⟨dst, .convert src dst' x, ty, pos, after, guard⟩ X U n' := by
 simp only [ql] at h
 split at h
 ·rename_i ti k sz wd zs k' n hs hd hx
  refine ⟨_, _, _, h, qh.pure fun M φ B' w ρ hi => ?_⟩
  have hv := hi.args x (by simp [Op.operands])
  rw [hx] at hv
  obtain ⟨e, hk⟩ := hv
  obtain ⟨I⟩ := qM (hT _ _ hs)
  obtain ⟨J⟩ := qM (hT _ _ hd)
  refine ⟨.int k (k.wrap n), ?_, by rw [qbk], qbM _ _⟩
  simp only [execOp, Go.convert, Sem.run_bind, I.run_und, J.run_und, Result.andThen_ok, J.kint rfl, e]
  rfl
 ·rename_i s hs hd hx
  obtain ⟨hu8, h⟩ := qf h
  unfold ql.isU8 at hu8
  split at hu8
  case h_2 => cases hu8
  rename_i hk
  refine ⟨_, _, _, h, Nat.le_succ _, fun M φ B' w ρ hi hf => ?_⟩
  have hv := hi.args x (by simp [Op.operands])
  rw [hx] at hv
  have hv : ρ x = .string s := hv
  obtain ⟨I⟩ := qM (hT _ _ hs)
  obtain ⟨e, ti, hel, htk, hue, ⟨J⟩⟩ := qcy hT hk
  have hd1 : P.underlying dst' = some (.slice e) := qgn hue
  have he1 : P.underlying e = some (.int .u8) := by rw [J.hd, J.kint htk]
  have hrun := Lib.run_convert_string_bytes w src dst' e s I.hd hd1 he1
  have hg : qt w w.drew := (qt.refl w).drew
  unfold qW
  have e0 : (execOp ρ ⟨dst, .convert src dst' x, ty, pos, after, guard⟩).run P w = .ok (.value (.slice (some ⟨w.heap.size, 0, none⟩) s.size (grownCap w s.size 0 e))) (Lib.bytesWorld w e s) := by
   simp only [execOp, Sem.run_bind, hv, hrun, Result.andThen_ok]
   rfl
  rw [e0]
  have hle := grownCap_ge w s.size 0 e
  have hcs : (Lib.bytesCells w e s).size = grownCap w s.size 0 e := by simp [Lib.bytesCells]; omega
  have hw : Lib.bytesWorld w e s = w.drew.alloc (.cells (Lib.bytesCells w e s) e ((Lib.bytesCells w e s).size, (Lib.bytesCells w e s).size + 1)) := by
   unfold Lib.bytesWorld World.freeze
   rw [if_neg (by decide)]
   simp only [World.alloc, World.drew]
   congr 1
   apply Array.ext
   ·simp
   ·intro i h1 h2
    rw [Array.getElem_modify]
    split
    ·rename_i hi
     subst hi
     simp
    ·rename_i hi
     simp only [Array.size_modify, Array.size_push] at h1
     rw [Array.getElem_push_lt (by omega), Array.getElem_push_lt (by omega)]
  rw [hw]
  have hsz : (qcN s).length = s.size := by simp [qcN]
  have hcell : ∀ j, (w.drew.alloc (.cells (Lib.bytesCells w e s) e ((Lib.bytesCells w e s).size, (Lib.bytesCells w e s).size + 1))).cell? ⟨w.heap.size, j, none⟩ = (Lib.bytesCells w e s)[j]? := fun j => by
   have : (w.drew.alloc (.cells (Lib.bytesCells w e s) e ((Lib.bytesCells w e s).size, (Lib.bytesCells w e s).size + 1))).heap[w.heap.size]? = some (.cells (Lib.bytesCells w e s) e ((Lib.bytesCells w e s).size, (Lib.bytesCells w e s).size + 1)) := by
    simp [World.alloc, World.drew, -World.alloc_eq, -World.drew_eq]
   simp only [World.cell?, this]
   rfl
  refine qdJ (p := ⟨w.heap.size, 0, grownCap w s.size 0 e, s.size, grownCap w s.size 0 e, false⟩) hi.rel (hf nx (Nat.le_refl _) (Nat.lt_succ_self _)) hg rfl (fun j hj => ⟨⟨(Lib.bytesCells w e s)[j]'(by simpa [hcs] using hj), ?_⟩, ?_⟩) (fun φ' _ _ => ?_) ⟨_, qaa, rfl⟩
  ·rw [Nat.zero_add, hcell]
   exact Array.getElem?_eq_getElem _
  ·simp only at hj
   have : (w.drew.alloc (.cells (Lib.bytesCells w e s) e ((Lib.bytesCells w e s).size, (Lib.bytesCells w e s).size + 1))).heap[w.heap.size]? = some (.cells (Lib.bytesCells w e s) e ((Lib.bytesCells w e s).size, (Lib.bytesCells w e s).size + 1)) := by
    simp [World.alloc, World.drew, -World.alloc_eq, -World.drew_eq]
   simp only [World.frozen?]
   rw [this]
   simp [hcs]
   omega
  ·refine ⟨hsz.symm, hle, fun h => (by cases h), fun _ _ => rfl, fun h => (by cases h), by rw [hsz]; exact hle, fun j z hz => ?_⟩
   have hj := (List.getElem?_eq_some_iff.1 hz).1
   rw [hsz] at hj
   have hz' : z = ((s.data.toList[j]'(by simpa using hj)).toNat : Int) := by
    rw [qcN, List.getElem?_map, List.getElem?_eq_getElem (by simpa using hj)] at hz
    exact (Option.some.inj hz).symm
   refine ⟨?_, by rw [hz']; intro _; omega⟩
   simp only [Nat.zero_add]
   rw [hcell, Lib.bytesCells, Array.getElem?_append_left (by simpa using hj), hz', Array.getElem?_map, Array.getElem?_eq_getElem (by simpa using hj)]
   simp
 ·rename_i hs hd
  obtain ⟨hu8, h⟩ := qf h
  unfold ql.isU8 at hu8
  split at hu8
  case h_2 => cases hu8
  rename_i hk
  split at h
  case h_2 => cases h
  rename_i l hrow
  refine ⟨_, _, _, h, qh.pure fun M φ B' w ρ hi => ?_⟩
  obtain ⟨J⟩ := qM (hT _ _ hd)
  obtain ⟨e, ti, hel, htk, hue, ⟨I⟩⟩ := qcy hT hk
  have hs1 : P.underlying src = some (.slice e) := qgn hue
  have he1 : P.underlying e = some (.int .u8) := by rw [I.hd, I.kint htk]
  have hd1 : P.underlying dst' = some .string := by rw [J.hd]; exact congrArg some (J.kstr rfl)
  have hv := hi.args x (by simp [Op.operands])
  obtain ⟨a, cap, h1, h2, h3, h4⟩ := qeD hrow hv hi.rel (fun id hid => hi.agree id (qap (y := x) (by simp [Op.operands]) hid))
  refine ⟨.string (qgf l), ?_, rfl⟩
  simp only [execOp, Sem.run_bind, h1]
  rcases h4 with ⟨rfl, rfl, rfl⟩ | ⟨b, o, rfl, hc⟩
  ·rw [run_convert_bytes_nil w src e hs1 he1 _ _ dst' hd1]
   rfl
  ·rw [run_convert_bytes_arg w src e hs1 he1 b o _ cap l rfl (fun i hi' => by rw [hc i _ (List.getElem?_eq_getElem hi')]; simp [List.getD, List.getElem?_eq_getElem hi']) dst' hd1]
   rfl
 ·cases h
end
section
variable {C : Cfg} {P : Program} {g : Operand → V} {B : Nat → Blk} {nx : Nat} {dr : Bool} {dst : Option Tmp} {ty : TypeId} {pos : String} {after : Array Edge} {guard : Option (Nat × Bool)} {R : Type} {r : R} {K : KV R}
theorem qf7 {f : FuncId} {fn : Func} {c : Code} (hf : P.funcs[f]? = some fn) (hname : (fn.name == "runtime.NumGoroutine") = false) (hb : fn.body = some c) (args : Array Value) (w : World) :
  (callFunc f args).run P w = .ok (.enter f args) w := by
 have h1 : fn.name ≠ "runtime.NumGoroutine" := by simpa using hname
 simp [callFunc, hf, h1, hb]
theorem qhu {f : Operand} {args : Array Operand} {tys : Array TypeId} (hG : ∀ f F, F ∈ C.G f → qR P C.M0 f F) (h : ql C g B nx dr ⟨dst, .call ⟨.value f, args, tys⟩, ty, pos, after, guard⟩ K = some r) :
  ∃ X U n', K X U n' = some r ∧ qh C P g B nx dr ⟨dst, .call ⟨.value f, args, tys⟩, ty, pos, after, guard⟩ X U n' := by
 simp only [ql] at h
 split at h
 ·rename_i f' hf
  obtain ⟨X, U, n', hK, hle, hc⟩ := qdT (P := P) (fun F hF => hG f' F hF) h
  refine ⟨X, U, n', hK, hle, fun M φ B' w ρ hi hfr => ?_⟩
  have hfv := hi.args f (by simp [Op.operands, Call.operands])
  rw [hf] at hfv
  have hfv : ρ f = .func (.func f') #[] #[] := hfv
  have hne : C.G f' ≠ [] := fun e => by rw [e] at h; cases h
  obtain ⟨F, hF⟩ := List.exists_mem_of_ne_nil _ hne
  obtain ⟨fn, c, h1, h2, h3⟩ := (hG f' F hF).fn
  have hrun : (execOp ρ ⟨dst, .call ⟨.value f, args, tys⟩, ty, pos, after, guard⟩).run P w = .ok (.enter f' (args.toList.map ρ).toArray) w := by
   simp only [execOp, resolve, hfv, Deferred.ofValue, Sem.run_bind, Sem.run_pure, Result.andThen_ok, invoke]
   have := qf7 h1 h2 h3 (#[] ++ args.map ρ ++ #[]) w
   rw [this]
   congr 2
   apply Array.ext'
   simp
  unfold qW
  rw [hrun]
  refine hc M φ B' w (args.toList.map ρ) hi.glob hi.rel (by simp [qak]) (fun i v x hv hx => ?_) (fun x hx id hid => ?_) hi.seq hfr
  ·simp only [qak, List.getElem?_map] at hv hx
   cases ha : args.toList[i]? with
   | none => rw [ha] at hv; cases hv
   | some y =>
    rw [ha] at hv hx
    cases hv; cases hx
    exact hi.args y (by simp only [Op.operands, Call.operands]; have := List.mem_of_getElem? ha; simp at this; simp [this])
  ·simp only [qak, List.mem_map] at hx
   obtain ⟨y, hy, rfl⟩ := hx
   exact hi.agree id (qap (y := y) (by simp only [Op.operands, Call.operands]; simp at hy; simp [hy]) hid)
 ·rename_i f' l hf
  obtain ⟨X, U, n', hK, hle, hc⟩ := qdT (P := P) (fun F hF => hG f' F hF) h
  refine ⟨X, U, n', hK, hle, fun M φ B' w ρ hi hfr => ?_⟩
  have hfv := hi.args f (by simp [Op.operands, Call.operands])
  rw [hf] at hfv
  obtain ⟨cs, hfv, hcs, hget⟩ := (show RL M φ (ρ f) (.clo f' l) from hfv)
  have hne : C.G f' ≠ [] := fun e => by rw [e] at h; cases h
  obtain ⟨F, hF⟩ := List.exists_mem_of_ne_nil _ hne
  obtain ⟨fn, c, h1, h2, h3⟩ := (hG f' F hF).fn
  have hrun : (execOp ρ ⟨dst, .call ⟨.value f, args, tys⟩, ty, pos, after, guard⟩).run P w = .ok (.enter f' (args.toList.map ρ ++ cs.toList).toArray) w := by
   simp only [execOp, resolve, hfv, Deferred.ofValue, Sem.run_bind, Sem.run_pure, Result.andThen_ok, invoke]
   have := qf7 h1 h2 h3 (#[] ++ args.map ρ ++ cs) w
   rw [this]
   congr 2
   apply Array.ext'
   simp
  unfold qW
  rw [hrun]
  refine hc M φ B' w (args.toList.map ρ ++ cs.toList) hi.glob hi.rel (by simp [qak, hcs]) (fun i v x hv hx => ?_) (fun x hx id hid => ?_) hi.seq hfr
  ·by_cases hlt : i < args.toList.length
   ·rw [List.getElem?_append_left (by simp only [qak, List.length_map]; exact hlt)] at hx
    rw [List.getElem?_append_left (by simp only [List.length_map]; exact hlt)] at hv
    simp only [qak, List.getElem?_map] at hv hx
    cases ha : args.toList[i]? with
    | none => rw [ha] at hv; cases hv
    | some y =>
     rw [ha] at hv hx
     cases hv; cases hx
     exact hi.args y (by simp only [Op.operands, Call.operands]; have := List.mem_of_getElem? ha; simp at this; simp [this])
   ·rw [List.getElem?_append_right (by simp only [qak, List.length_map]; omega)] at hx
    rw [List.getElem?_append_right (by simp only [List.length_map]; omega)] at hv
    simp only [qak, List.length_map] at hv hx
    obtain ⟨u, hu, hr⟩ := hget _ _ hx
    rw [Array.getElem?_toList, hu] at hv
    cases hv
    cases x with
    | iptr l => exact hr
    | _ => exact hr.elim
  ·rcases List.mem_append.1 hx with hx | hx
   ·simp only [qak, List.mem_map] at hx
    obtain ⟨y, hy, rfl⟩ := hx
    exact hi.agree id (qap (y := y) (by simp only [Op.operands, Call.operands]; simp at hy; simp [hy]) hid)
   ·obtain ⟨j, hj⟩ := List.getElem?_of_mem hx
    obtain ⟨u, hu, hr⟩ := hget _ _ hj
    cases x with
    | iptr l => cases hid
    | _ => exact hr.elim
 ·cases h
theorem qfQ {o : Oper} (hT : TOk P C.T) (hg : ∀ c, g (.const c) = qaq c) (hG : ∀ f F, F ∈ C.G f → qR P C.M0 f F) (h : ql C g B nx dr o K = some r) :
  ∃ X U n', K X U n' = some r ∧ qh C P g B nx dr o X U n' := by
 obtain ⟨dst, op, ty, pos, after, guard⟩ := o
 cases op with
 | move x => exact qhH h
 | assign x => exact qhp h
 | pick c a b => exact qhK h
 | alloc t => exact qhn hT h
 | box t x => exact qhr h
 | makeFunc fn first cap => exact qhD h
 | build t parts => exact qhs hT h
 | buildSlice t n parts => exact qht hT h
 | load t a => exact qhC hT h
 | store t a x => exact qhN hT h
 | nilCheck x => exact qhJ h
 | binOp op t x y yt => exact qhq hT hg h
 | unOp op t x => exact qhO h
 | convert s d x => exact qhv hT h
 | makeSlice t x y => exact qhE hT h
 | slice t x lo hi mx =>
  cases mx with
  | none => exact qhM hT h
  | some _ => cases h
 | range t x => exact qhL hT h
 | next it b =>
  cases b with
  | true => exact qhI h
  | false => cases h
 | fieldAddr t x f => exact qhy hT h
 | field t x f => exact qhx hT h
 | indexAddr t x ix => exact qhA hT hg h
 | index t x ix => exact qhz hT hg h
 | extract x n => exact qhw h
 | call c =>
  obtain ⟨callee, args, tys⟩ := c
  cases callee with
  | value f => exact qhu hG h
  | invoke x n => cases h
  | builtin b =>
   obtain ⟨args⟩ := args
   obtain ⟨tys⟩ := tys
   cases b with
   | len =>
    match args, tys, h with
    | [x], t :: tys, h => exact qhB hT h
   | max =>
    match args, h with
    | [x, y], h => exact qhF h
   | min =>
    match args, h with
    | [x, y], h => exact qhG h
   | append =>
    match args, tys, h with
    | [x, y], t :: u :: tys, h => exact qho hT h
   | _ => cases h
 | _ => cases h
end
structure StR (C : Cfg) (s : St) (M : Mem) (φ : Plc) (a : Act) (w : World) : Prop where
 rel : Rel M φ (qc s.O) w
 tm : ∀ i, RV M φ (a.tmps.getD i undef) (qj s.t i)
 size : C.nt ≤ a.tmps.size
 defers : a.defers = []
 fresh : ∀ id, s.nx ≤ id → φ id = none
 glob : Ext C.M0 M
def qam (s : St) (dst : Option Nat) (v : V) (U : List (Nat × Blk)) (nx : Nat) : St :=
 match dst with | none => { t := s.t, O := U ++ s.O, nx } | some d => { t := (d, v) :: s.t, O := U ++ s.O, nx }
theorem qdl {R : Type} {s : St} {n : Nat} {dst : Option Nat} {v : V} {U : List (Nat × Blk)} {nx : Nat} {K : St → Option R} {r : R} (h : s.put n dst v U nx K = some r) : K (qam s dst v U nx) = some r ∧ ∀ d, dst = some d → d < n := by
 unfold St.put at h
 split at h
 ·exact ⟨h, fun d hd => by cases hd⟩
 ·obtain ⟨h1, h2⟩ := qf h
  exact ⟨h2, fun d hd => by cases hd; exact Nat.blt_eq.mp h1⟩
theorem qdV {M : Mem} {φ : Plc} {v : Value} : RV M φ v .dead := trivial
theorem qgo {M : Mem} {φ : Plc} : RV M φ undef .und := rfl
section
variable {C : Cfg} {P : Program} {R : Type} {r : R}
theorem StR.eval {s : St} {M : Mem} {φ : Plc} {a : Act} {w : World} (h : StR C s M φ a w) (y : Operand) : RV M φ (a.eval y) (s.get y) := by
 cases y with
 | tmp t => exact h.tm t
 | const v => exact (qfP v).rv
 | global g => exact (show RV M φ _ (.glob g) from rfl)
 | func f => exact rfl
theorem qc0 {a : Act} {dst : Option Nat} {v : Value} {i : Nat} (hd : ∀ d, dst = some d → d < a.tmps.size) : (a.put dst v).tmps.getD i undef = if dst = some i then v else a.tmps.getD i undef := by
 cases dst with
 | none => simp [Act.put]
 | some d =>
  have := hd d rfl
  simp only [Act.put, Option.some.injEq]
  by_cases h : d = i
  ·subst h
   simp [this]
  ·simp [h]
theorem qdr {a : Act} {dst : Option Nat} {v : Value} : (a.put dst v).tmps.size = a.tmps.size := by cases dst <;> simp [Act.put]
theorem qcS {a : Act} {dst : Option Nat} {v : Value} : (a.put dst v).defers = a.defers := by cases dst <;> rfl
theorem qbf {s : St} {dst : Option Nat} {x : V} {U : List (Nat × Blk)} {n : Nat} : (qam s dst x U n).O = U ++ s.O ∧ (qam s dst x U n).nx = n := by cases dst <;> exact ⟨rfl, rfl⟩
theorem qez {s : St} {dst : Option Nat} {x : V} {U : List (Nat × Blk)} {n i : Nat} : qj (qam s dst x U n).t i = if dst = some i then x else qj s.t i := by
 cases dst with
 | none => simp [qam]
 | some d =>
  simp only [qam, q9, Option.some.injEq]
  by_cases h : i = d
  ·subst h; simp
  ·rw [if_neg h, if_neg (fun e => h e.symm)]
theorem StR.put {s : St} {M : Mem} {φ : Plc} {a : Act} {w w' : World} {dst : Option Nat} {x : V} {U : List (Nat × Blk)} {n' : Nat} {v : Value} (h : StR C s M φ a w) (hp : qX M φ (qc s.O) w x U s.nx n' v w')
  (hle : s.nx ≤ n') (hd : ∀ d, dst = some d → d < C.nt) :
  ∃ M' φ', StR C (qam s dst x U n') M' φ' (a.put dst v) w' ∧ Stp M φ (qc s.O) w M' φ' (qc (qam s dst x U n').O) w' ∧ qr φ φ' := by
 obtain ⟨M', φ', h1, h2, h3, h4, h5⟩ := hp
 have e : qc (qam s dst x U n').O = qp U (qc s.O) := by rw [qbf.1]; funext id; exact qbZ U s.O id
 refine ⟨M', φ', ⟨by rw [e]; exact h2, fun i => ?_, by rw [qdr]; exact h.size, by rw [qcS]; exact h.defers, fun id hid => ?_, h.glob.trans h3.mem⟩, by rw [e]; exact h3, h5⟩
 ·rw [qc0 (fun d hd' => Nat.lt_of_lt_of_le (hd d hd') h.size), qez]
  split
  ·exact h1
  ·exact (h.tm i).mono h3.mem h5
 ·rw [qbf.2] at hid
  rw [h4 id (.inr hid)]
  exact h.fresh id (by omega)
theorem StR.skip {s : St} {M : Mem} {φ : Plc} {a : Act} {w : World} {dst : Option Nat} (h : StR C s M φ a w) (hd : ∀ d, dst = some d → d < C.nt) :
  StR C (qam s dst .und [] s.nx) M φ (a.put dst undef) w ∧ qc (qam s dst .und [] s.nx).O = qc s.O := by
 have e : qc (qam s dst .und [] s.nx).O = qc s.O := by rw [qbf.1]; rfl
 refine ⟨⟨by rw [e]; exact h.rel, fun i => ?_, by rw [qdr]; exact h.size, by rw [qcS]; exact h.defers, fun id hid => h.fresh id (by rw [qbf.2] at hid; exact hid), h.glob⟩, e⟩
 rw [qc0 (fun d hd' => Nat.lt_of_lt_of_le (hd d hd') h.size), qez]
 split
 ·exact qgo
 ·exact h.tm i
theorem qe3 {o : Oper} {a : Act} {w : World} {Post : Value → World → Prop} {next : Act → World → Prop} {Q : Exit → Act → World → Prop} (h : qW P a.eval o w Post) (hn : ∀ v w', Post v w' → next (a.put o.dst v) w') :
  o.wp P a w next Q := by
 unfold qW at h
 unfold Oper.wp
 generalize (execOp a.eval o).run P w = res at *
 cases res with
 | ok n w' =>
  cases n <;> simp only [qdH] at h <;> simp only [Oper.upon]
  case value u => exact hn _ _ h
  case skip => exact hn _ _ h
  case enter f args => exact Calls.mono h fun e w'' ⟨v, he, hp⟩ => by subst he; exact hn _ _ hp
 | halt x w' => simp only [qdH] at h
theorem qfV {s : St} {d : Nat} {yes no : St → Option R} (h : qbJ s d yes no = some r) :
  ∃ b : Bool, ∃ s', (bif b then yes else no) s' = some r ∧ s'.O = s.O ∧ s'.nx = s.nx ∧ (∀ M φ a w, StR C s M φ a w → StR C s' M φ a w ∧ a.tmps.getD d undef = .bool b) := by
 have same : ∀ {x : V} {b : Bool}, qj s.t d = x → (∀ {M φ v}, RV M φ v x → v = .bool b) → ∀ (y : V), (∀ {M φ}, RV M φ (.bool b) y) → ∀ M φ a w, StR C s M φ a w → StR C { s with t := (d, y) :: s.t } M φ a w ∧ a.tmps.getD d undef = .bool b := by
  intro x b hx hb y hy M φ a w hs
  have h1 := hb (by have := hs.tm d; rw [hx] at this; exact this)
  refine ⟨⟨hs.rel, fun i => ?_, hs.size, hs.defers, hs.fresh, hs.glob⟩, h1⟩
  rw [q9]
  split
  ·rename_i e; subst e; rw [h1]; exact hy
  ·exact hs.tm i
 unfold qbJ at h
 split at h
 ·rename_i hx
  exact ⟨true, s, h, rfl, rfl, fun M φ a w hs => ⟨hs, by have := hs.tm d; rw [hx] at this; exact this⟩⟩
 ·rename_i hx
  exact ⟨false, s, h, rfl, rfl, fun M φ a w hs => ⟨hs, by have := hs.tm d; rw [hx] at this; exact this⟩⟩
 ·rename_i b hx
  split at h
  ·rename_i hb
   exact ⟨true, _, h, rfl, rfl, same hx (fun hv => by rw [hb] at hv; exact hv) .tt rfl⟩
  ·rename_i hb
   have hb : b = false := by simpa using hb
   exact ⟨false, _, h, rfl, rfl, same hx (fun hv => by rw [hb] at hv; exact hv) .ff rfl⟩
 ·rename_i p inst hx
  split at h
  ·rename_i hb
   exact ⟨true, _, h, rfl, rfl, same hx (fun {M φ v} hv => by
    have hv : v = .bool (@decide p inst) := hv
    rw [hv]; congr 1; exact @decide_eq_true p inst hb) .tt rfl⟩
  ·rename_i hb
   exact ⟨false, _, h, rfl, rfl, same hx (fun {M φ v} hv => by
    have hv : v = .bool (@decide p inst) := hv
    rw [hv]; congr 1; exact @decide_eq_false p inst hb) .ff rfl⟩
 ·cases h
def qbu (C : Cfg) (s s' : St) (X : Mem → Plc → Act → World → (Act → World → Prop) → Prop) : Prop :=
 ∀ M φ a w, StR C s M φ a w → ∀ N : Act → World → Prop, (∀ M' φ' a' w', StR C s' M' φ' a' w' → Stp M φ (qc s.O) w M' φ' (qc s'.O) w' → qr φ φ' → N a' w') → X M φ a w N
theorem qgu {ops : Array Oper} {j d : Nat} {a : Act} {b : Bool} (h : (ops[j]?).bind (·.dst) = some d) (hd : d < a.tmps.size) (hv : a.tmps.getD d undef = .bool b) : yielded ops a.tmps j = some b := by
 unfold yielded
 rw [h]
 simp only [Option.bind_some]
 have : a.tmps[d]? = some (.bool b) := by rw [Array.getD_eq_getD_getElem?, Array.getElem?_eq_getElem hd] at hv; rw [Array.getElem?_eq_getElem hd]; exact congrArg some hv
 rw [this]
theorem qgv {ops : Array Oper} {j d : Nat} {a : Act} (h : (ops[j]?).bind (·.dst) = some d) (hd : d < a.tmps.size) (hv : a.tmps.getD d undef = undef) : yielded ops a.tmps j = none := by
 unfold yielded
 rw [h]
 simp only [Option.bind_some]
 have : a.tmps[d]? = some undef := by rw [Array.getD_eq_getD_getElem?, Array.getElem?_eq_getElem hd] at hv; rw [Array.getElem?_eq_getElem hd]; exact congrArg some hv
 rw [this]
 rfl
variable (hT : TOk P C.T) (hG : ∀ f F, F ∈ C.G f → qR P C.M0 f F)
include hT hG
theorem qh8 {dr : Bool} {o : Oper} {s : St} {K : St → Option R} (h : qbK C dr o s K = some r) :
  ∃ X U n', K (qam s o.dst X U n') = some r ∧ (∀ d, o.dst = some d → d < C.nt) ∧ qh C P s.get (qc s.O) s.nx dr o X U n' := by
 obtain ⟨X, U, n', hK, hop⟩ := qfQ (P := P) hT (fun c => rfl) hG h
 obtain ⟨h1, h2⟩ := qdl hK
 exact ⟨X, U, n', h1, h2, hop⟩
theorem qh7 {o : Oper} {s : St} {K : St → Option R} {Q : Exit → Act → World → Prop} (h : qbK C false o s K = some r) : ∃ s', K s' = some r ∧ qbu C s s' fun _ _ a w N => o.wp P a w N Q := by
 obtain ⟨X, U, n', hK, hd, hle, hop⟩ := qh8 hT hG h
 refine ⟨_, hK, fun M φ a w hs N hN => ?_⟩
 refine qe3 (hop M φ (qc s.O) w a.eval ⟨hs.rel, fun y _ => hs.eval y, fun _ _ _ => rfl, fun _ => rfl, hs.glob⟩ (fun id h1 _ => hs.fresh id h1)) fun v w' hp => ?_
 obtain ⟨M', φ', h1, h2, h3⟩ := hs.put hp hle hd
 exact hN M' φ' _ _ h1 h2 h3
theorem qd2 {ops : Array Oper} {Q : Exit → Act → World → Prop} {K : St → Option R} : ∀ (l : List Oper) (k : Nat) (s : St), (∀ j, l[j]? = ops[k + j]?) → qaz C ops l s K = some r →
  ∃ s', K s' = some r ∧ qbu C s s' fun _ _ a w N => (∀ a w, N a w → Q .normal a w) → wpOps P ops Q (List.range' k l.length) a w
 | [], k, s, _, h => ⟨s, h, fun M φ a w hs N hN hQ => hQ _ _ (hN M φ a w hs (Stp.refl M φ _ w) (qr.refl φ))⟩
 | o :: rest, k, s, hl, h => by
  have h0 : ops[k]? = some o := by simpa using (hl 0).symm
  have hl' : ∀ j, rest[j]? = ops[k + 1 + j]? := fun j => by have := hl (j + 1); rw [show k + (j + 1) = k + 1 + j by omega] at this; simpa using this
  have stp : ∀ {s : St}, qbK C false o s (fun s => qaz C ops rest s K) = some r → ∃ s', K s' = some r ∧ qbu C s s' fun _ _ a w N => Region.wanted o (yielded ops a.tmps) = true → (∀ a w, N a w → Q .normal a w) → wpOps P ops Q (List.range' k (o :: rest).length) a w := by
   intro s h
   obtain ⟨s1, h1, g1⟩ := qh7 (Q := Q) hT hG h
   obtain ⟨s2, h2, g2⟩ := qd2 rest (k + 1) s1 hl' h1
   refine ⟨s2, h2, fun M φ a w hs N hN hw hQ => ?_⟩
   rw [List.length_cons, List.range'_succ, wpOps_cons]
   unfold wpOp
   simp only [h0, hw, if_true]
   refine .inl (g1 M φ a w hs _ fun M1 φ1 a1 w1 hs1 st1 pe1 => ?_)
   exact g2 M1 φ1 a1 w1 hs1 N (fun M2 φ2 a2 w2 hs2 st2 pe2 => hN M2 φ2 a2 w2 hs2 (st1.trans st2) (pe1.trans pe2)) hQ
  have skp : ∀ {s : St}, qbh C o s (fun s => qaz C ops rest s K) = some r → ∃ s', K s' = some r ∧ qbu C s s' fun _ _ a w N => Region.wanted o (yielded ops a.tmps) = false → (∀ a w, N a w → Q .normal a w) → wpOps P ops Q (List.range' k (o :: rest).length) a w := by
   intro s h
   obtain ⟨h1, hd⟩ := qdl h
   obtain ⟨s2, h2, g2⟩ := qd2 rest (k + 1) _ hl' h1
   refine ⟨s2, h2, fun M φ a w hs N hN hw hQ => ?_⟩
   rw [List.length_cons, List.range'_succ, wpOps_cons]
   unfold wpOp
   simp only [h0, hw, Bool.false_eq_true, if_false]
   obtain ⟨k1, k2⟩ := hs.skip hd
   exact g2 M φ _ w k1 N (fun M2 φ2 a2 w2 hs2 st2 pe2 => hN M2 φ2 a2 w2 hs2 (by rw [k2] at st2; exact st2) pe2) hQ
  simp only [qaz] at h
  split at h
  ·rename_i hg
   obtain ⟨s', h1, g⟩ := stp h
   exact ⟨s', h1, fun M φ a w hs N hN hQ => g M φ a w hs N hN (by unfold Region.wanted; rw [hg]) hQ⟩
  ·rename_i j b hg
   split at h
   ·cases h
   ·rename_i d hd
    obtain ⟨hdn, h1⟩ := qf h
    have hdn : d < C.nt := Nat.blt_eq.mp hdn
    rcases qat h1 with ⟨hu, h2⟩ | ⟨_, h2⟩
    ·obtain ⟨s', h3, g⟩ := skp h2
     refine ⟨s', h3, fun M φ a w hs N hN hQ => g M φ a w hs N hN ?_ hQ⟩
     have hv : a.tmps.getD d undef = undef := by
      have := hs.tm d
      revert hu this
      cases qj s.t d <;> simp only [qcn] <;> intro hu this <;> first | exact this | cases hu
     unfold Region.wanted
     rw [hg]
     simp only
     rw [qgv hd (Nat.lt_of_lt_of_le hdn hs.size) hv]
     rfl
    ·obtain ⟨t, s1, h3, hO, hn, hst⟩ := qfV (C := C) h2
     have wt : ∀ {M φ a w}, StR C s M φ a w → Region.wanted o (yielded ops a.tmps) = (t == b) := fun {M φ a w} hs => by
      unfold Region.wanted
      rw [hg]
      simp only
      rw [qgu hd (Nat.lt_of_lt_of_le hdn hs.size) (hst M φ a w hs).2]
      cases t <;> cases b <;> rfl
     have run : (t == b) = true → qbK C false o s1 (fun s => qaz C ops rest s K) = some r → ∃ s', K s' = some r ∧ qbu C s s' fun _ _ a w N => (∀ a w, N a w → Q .normal a w) → wpOps P ops Q (List.range' k (o :: rest).length) a w := by
      intro hb h
      obtain ⟨s', h4, g⟩ := stp h
      exact ⟨s', h4, fun M φ a w hs N hN hQ => g M φ a w (hst M φ a w hs).1 N (by rw [hO]; exact hN) ((wt hs).trans hb) hQ⟩
     have skip : (t == b) = false → qbh C o s1 (fun s => qaz C ops rest s K) = some r → ∃ s', K s' = some r ∧ qbu C s s' fun _ _ a w N => (∀ a w, N a w → Q .normal a w) → wpOps P ops Q (List.range' k (o :: rest).length) a w := by
      intro hb h
      obtain ⟨s', h4, g⟩ := skp h
      exact ⟨s', h4, fun M φ a w hs N hN hQ => g M φ a w (hst M φ a w hs).1 N (by rw [hO]; exact hN) ((wt hs).trans hb) hQ⟩
     cases t <;> cases b <;> simp only [cond_true, cond_false, qcM, qbQ] at h3
     ·exact run rfl h3
     ·exact skip rfl h3
     ·exact skip rfl h3
     ·exact run rfl h3
end
def mix {α : Type} (D : Nat → Bool) : List (Nat → Option α) → (Nat → α) → (Nat → α)
 | [], f => f
 | u :: us, f => mix (fun i => D (i + 1)) us (fun x => if D 0 = true then (u x).getD (f x) else f x)
section
variable {α : Type}
theorem qbF {x : Nat} : ∀ {us : List (Nat → Option α)} {D D' : Nat → Bool} {f f' : Nat → α}, (∀ (i : Nat) u, us[i]? = some u → D i ≠ D' i → u x = none) → f x = f' x → mix D us f x = mix D' us f' x
 | [], _, _, _, _, _, h => h
 | u :: us, D, D', f, f', h, hf => by
  refine qbF (us := us) (D := fun i => D (i + 1)) (D' := fun i => D' (i + 1)) (fun i u hu hd => h (i + 1) u (by simpa using hu) hd) ?_
  by_cases hd : D 0 = D' 0
  ·simp only [hd, hf]
  ·have := h 0 u rfl hd
   simp [this, hf]
theorem qel {x : Nat} {us : List (Nat → Option α)} {D : Nat → Bool} {f : Nat → α} (h : ∀ (i : Nat) u, us[i]? = some u → D i = true → u x = none) : mix D us f x = f x := by
 have e : ∀ {us : List (Nat → Option α)} {f : Nat → α}, mix (fun _ => false) us f x = f x := by
  intro us
  induction us with
  | nil => intro f; rfl
  | cons u us ih => intro f; simp only [mix]; rw [ih]; rfl
 rw [qbF (D' := fun _ => false) (f' := f) (fun i u hu hd => h i u hu (by simpa using hd)) rfl, e]
theorem qen {x : Nat} : ∀ {us : List (Nat → Option α)} {D : Nat → Bool} {f : Nat → α} {j : Nat} {v : Nat → Option α}, us[j]? = some v → D j = false →
  (∀ (i : Nat) u, j < i → us[i]? = some u → D i = true → v x = none ∨ u x = none) → mix (fun i => D i || Nat.beq i j) us f x = (v x).getD (mix D us f x)
 | [], _, _, _, _, hv, _, _ => by simp at hv
 | u :: us, D, f, 0, v, hv, hD, h => by
  simp at hv; subst hv
  simp only [mix, hD]
  have e : (fun i => D (i + 1) || Nat.beq (i + 1) 0) = fun i => D (i + 1) := by
   funext i
   have : Nat.beq (i + 1) 0 = false := rfl
   rw [this, Bool.or_false]
  rw [e]
  have e0 : (false || Nat.beq 0 0) = true := rfl
  simp only [e0, if_true, Bool.false_eq_true, if_false]
  cases hu : u x with
  | none => exact qbF (fun _ _ _ hd => absurd rfl hd) (by simp [hu])
  | some y =>
   rw [qel (fun i u' hu' hd => (h (i + 1) u' (by omega) (by simpa using hu') hd).resolve_left (by rw [hu]; simp))]
   simp [hu]
 | u :: us, D, f, j + 1, v, hv, hD, h => by
  simp only [mix]
  have e : (fun i => D (i + 1) || Nat.beq (i + 1) (j + 1)) = fun i => (fun i => D (i + 1)) i || Nat.beq i j := rfl
  rw [e]
  have e0 : Nat.beq 0 (j + 1) = false := rfl
  simp only [e0, Bool.or_false]
  exact qen (D := fun i => D (i + 1)) (by simpa using hv) hD (fun i u hi hu hd => h (i + 1) u (by omega) (by simpa using hu) hd)
end
def Ref (x y : V) : Prop := ∀ M φ v, RV M φ v x → RV M φ v y
theorem Ref.refl (x : V) : Ref x x := fun _ _ _ h => h
theorem Ref.trans {x y z : V} (h : Ref x y) (k : Ref y z) : Ref x z := fun M φ v hv => k M φ v (h M φ v hv)
theorem qem {x : Nat} : ∀ {us : List (Nat → Option V)} {D : Nat → Bool} {f f' : Nat → V}, Ref (f x) (f' x) → Ref (mix D us f x) (mix D us f' x)
 | [], _, _, _, h => h
 | u :: us, D, f, f', h => by
  refine qem (us := us) (D := fun i => D (i + 1)) ?_
  show Ref (if D 0 = true then (u x).getD (f x) else f x) (if D 0 = true then (u x).getD (f' x) else f' x)
  split
  ·cases u x with
   | none => exact h
   | some y => exact Ref.refl y
  ·exact h
structure Rec where
 o : Oper
 τ : St
 X : V
 U : List (Nat × Blk)
 n : Nat
 ran : Bool
def Rec.uB (r : Rec) (id : Nat) : Option Blk := if id ∈ qaU r.U then some (qp r.U (fun _ => .gone) id) else none
def Rec.uT (r : Rec) (t : Nat) : Option V := if r.o.dst = some t then some r.X else none
theorem qgq {U : List (Nat × Blk)} {B : Nat → Blk} {id : Nat} : qp U B id = (if id ∈ qaU U then some (qp U (fun _ => .gone) id) else none).getD (B id) := by
 induction U with
 | nil => rfl
 | cons q r ih =>
  obtain ⟨j, b⟩ := q
  rw [qdy, qdy]
  by_cases h : id = j
  ·subst h; simp [qaU]
  ·rw [if_neg h, if_neg h, ih]
   have : id ∈ qaU ((j, b) :: r) ↔ id ∈ qaU r := by simp [qaU, h]
   simp only [this]
section
variable {C : Cfg} {P : Program} {R : Type} {r : R}
def qbl (ops : List Oper) (o : Oper) (T : Nat → V) (nt : Nat) (ran : Bool) : Prop :=
 match o.guard with
 | none => ran = true
 | some (j, b) => ∃ d, (ops[j]?).bind (·.dst) = some d ∧ d < nt ∧ ((qcn (T d) = true ∧ ran = false) ∨ ∃ t : Bool, T d = (bif t then .tt else .ff) ∧ ran = (t == b))
structure qca (C : Cfg) (P : Program) (ops : List Oper) (r : Rec) (e : List Nat × List Nat) : Prop where
 dst : ∀ d, r.o.dst = some d → d < C.nt
 grd : qbl ops r.o (qj r.τ.t) C.nt r.ran
 yes : r.ran = true → qh C P r.τ.get (qc r.τ.O) r.τ.nx true r.o r.X r.U r.n ∧ e.1 = qbs r.τ.get r.o
 no : r.ran = false → r.X = .und ∧ r.U = [] ∧ r.n = r.τ.nx
 keys : e.2 = qaU r.U
theorem qca.le {ops : List Oper} {r : Rec} {e : List Nat × List Nat} (h : qca C P ops r e) : r.τ.nx ≤ r.n := by
 cases hr : r.ran
 ·rw [(h.no hr).2.2]; exact Nat.le_refl _
 ·exact (h.yes hr).1.1
inductive Tr (C : Cfg) (P : Program) (ops : List Oper) : List Oper → St → List Rec → Log → St → Prop
 | nil (s : St) : Tr C P ops [] s [] [] s
 | cons {o : Oper} {rest : List Oper} {s : St} {r : Rec} {e : List Nat × List Nat} {recs : List Rec} {L : Log} {s' : St} (ho : r.o = o) (hO : r.τ.O = s.O) (hn : r.τ.nx = s.nx) (href : ∀ i, Ref (qj s.t i) (qj r.τ.t i))
   (hok : qca C P ops r e) (ht : Tr C P ops rest (qam r.τ o.dst r.X r.U r.n) recs L s') : Tr C P ops (o :: rest) s (r :: recs) (e :: L) s'
theorem qhS {s : St} {d : Nat} {yes no : St → Option R} (h : qbJ s d yes no = some r) :
  ∃ b : Bool, ∃ s', (bif b then yes else no) s' = some r ∧ s'.O = s.O ∧ s'.nx = s.nx ∧ qj s'.t d = (bif b then .tt else .ff) ∧ ∀ i, Ref (qj s.t i) (qj s'.t i) := by
 have same : ∀ {x y : V}, qj s.t d = x → (∀ {M φ v}, RV M φ v x → RV M φ v y) → ∀ i, Ref (qj s.t i) (qj ((d, y) :: s.t) i) := by
  intro x y hx hy i M φ v hv
  rw [q9]
  split
  ·rename_i e; subst e; rw [hx] at hv; exact hy hv
  ·exact hv
 unfold qbJ at h
 split at h
 ·rename_i hx; exact ⟨true, s, h, rfl, rfl, hx, fun i => Ref.refl _⟩
 ·rename_i hx; exact ⟨false, s, h, rfl, rfl, hx, fun i => Ref.refl _⟩
 ·rename_i b hx
  split at h
  ·rename_i hb
   exact ⟨true, _, h, rfl, rfl, by simp [q9], same hx (fun {M φ v} hv => by rw [hb] at hv; exact hv)⟩
  ·rename_i hb
   have hb : b = false := by simpa using hb
   exact ⟨false, _, h, rfl, rfl, by simp [q9], same hx (fun {M φ v} hv => by rw [hb] at hv; exact hv)⟩
 ·rename_i p inst hx
  split at h
  ·rename_i hb
   exact ⟨true, _, h, rfl, rfl, by simp [q9], same hx (fun {M φ v} hv => by
    have hv : v = .bool (@decide p inst) := hv
    show v = .bool true
    rw [hv]; congr 1; exact @decide_eq_true p inst hb)⟩
  ·rename_i hb
   exact ⟨false, _, h, rfl, rfl, by simp [q9], same hx (fun {M φ v} hv => by
    have hv : v = .bool (@decide p inst) := hv
    show v = .bool false
    rw [hv]; congr 1; exact @decide_eq_false p inst hb)⟩
 ·cases h
theorem qd1 (hT : TOk P C.T) (hG : ∀ f F, F ∈ C.G f → qR P C.M0 f F) {ops : List Oper} {K : St → Log → Option R} : ∀ (l : List Oper) (s : St) (L0 : Log), qaQ C ops l s L0 K = some r →
  ∃ recs L s', K s' (L0 ++ L) = some r ∧ Tr C P ops l s recs L s'
 | [], s, L0, h => ⟨[], [], s, by rw [List.append_nil]; exact h, .nil s⟩
 | o :: rest, s, L0, h => by
  have run : ∀ {s1 : St}, qdo C o s1 (fun s' e => qaQ C ops rest s' (L0 ++ [e]) K) = some r → s1.O = s.O → s1.nx = s.nx → (∀ i, Ref (qj s.t i) (qj s1.t i)) → qbl ops o (qj s1.t) C.nt true →
    ∃ recs L s', K s' (L0 ++ L) = some r ∧ Tr C P ops (o :: rest) s recs L s' := by
   intro s1 h hO hn href hg
   obtain ⟨X, U, n', hK, hop⟩ := qfQ (P := P) hT (fun c => rfl) hG h
   obtain ⟨h1, h2⟩ := qdl hK
   obtain ⟨recs, L, s', h3, ht⟩ := qd1 hT hG rest _ _ h1
   rw [List.append_assoc] at h3
   exact ⟨⟨o, s1, X, U, n', true⟩ :: recs, (qbs s1.get o, qaU U) :: L, s', h3, .cons rfl hO hn href ⟨h2, hg, fun _ => ⟨hop, rfl⟩, fun h => (by cases h), rfl⟩ ht⟩
  have skip : ∀ {s1 : St}, qbh C o s1 (fun s' => qaQ C ops rest s' (L0 ++ [([], [])]) K) = some r → s1.O = s.O → s1.nx = s.nx → (∀ i, Ref (qj s.t i) (qj s1.t i)) → qbl ops o (qj s1.t) C.nt false →
    ∃ recs L s', K s' (L0 ++ L) = some r ∧ Tr C P ops (o :: rest) s recs L s' := by
   intro s1 h hO hn href hg
   obtain ⟨h1, h2⟩ := qdl h
   obtain ⟨recs, L, s', h3, ht⟩ := qd1 hT hG rest _ _ h1
   rw [List.append_assoc] at h3
   exact ⟨⟨o, s1, .und, [], s1.nx, false⟩ :: recs, ([], []) :: L, s', h3, .cons rfl hO hn href ⟨h2, hg, fun h => (by cases h), fun _ => ⟨rfl, rfl, rfl⟩, rfl⟩ ht⟩
  simp only [qaQ] at h
  split at h
  ·rename_i hg
   exact run h rfl rfl (fun i => Ref.refl _) (by unfold qbl; rw [hg])
  ·rename_i j b hg
   split at h
   ·cases h
   ·rename_i d hd
    obtain ⟨hdn, h1⟩ := qf h
    have hdn : d < C.nt := Nat.blt_eq.mp hdn
    rcases qat h1 with ⟨hu, h2⟩ | ⟨_, h2⟩
    ·exact skip h2 rfl rfl (fun i => Ref.refl _) (by unfold qbl; rw [hg]; exact ⟨d, hd, hdn, .inl ⟨hu, rfl⟩⟩)
    ·obtain ⟨t, s1, h3, hO, hn, hlk, href⟩ := qhS h2
     have gr : ∀ ran, ran = (t == b) → qbl ops o (qj s1.t) C.nt ran := fun ran hr => by
      unfold qbl; rw [hg]; exact ⟨d, hd, hdn, .inr ⟨t, hlk, hr⟩⟩
     cases t <;> cases b <;> simp only [cond_true, cond_false, qcM, qbQ] at h3
     ·exact run h3 hO hn href (gr _ rfl)
     ·exact skip h3 hO hn href (gr _ rfl)
     ·exact skip h3 hO hn href (gr _ rfl)
     ·exact run h3 hO hn href (gr _ rfl)
theorem Tr.length {ops l : List Oper} {s s' : St} {recs : List Rec} {L : Log} (h : Tr C P ops l s recs L s') : recs.length = l.length ∧ L.length = l.length := by
 induction h with
 | nil => exact ⟨rfl, rfl⟩
 | cons _ _ _ _ _ _ ih => exact ⟨by simp [ih.1], by simp [ih.2]⟩
theorem qf0 {r : Rec} {s : St} {o : Oper} (hO : r.τ.O = s.O) : qc (qam r.τ o.dst r.X r.U r.n).O = fun x => (r.uB x).getD (qc s.O x) := by
 rw [qbf.1, hO]
 funext x
 rw [qbZ, qgq]
 rfl
theorem qf1 {r : Rec} {o : Oper} (ho : r.o = o) (t : Nat) : qj (qam r.τ o.dst r.X r.U r.n).t t = (r.uT t).getD (qj r.τ.t t) := by
 rw [qez]
 unfold Rec.uT
 rw [ho]
 split <;> rfl
theorem Tr.at {ops l : List Oper} {s s' : St} {recs : List Rec} {L : Log} (h : Tr C P ops l s recs L s') : ∀ (j : Nat) r, recs[j]? = some r →
  l[j]? = some r.o ∧ (∃ e, L[j]? = some e ∧ qca C P ops r e) ∧ qc r.τ.O = mix (fun i => Nat.blt i j) (recs.map Rec.uB) (qc s.O) ∧ (∀ t, Ref (mix (fun i => Nat.blt i j) (recs.map Rec.uT) (qj s.t) t) (qj r.τ.t t)) ∧
   s.nx ≤ r.τ.nx ∧ r.n ≤ s'.nx ∧ ∀ (i : Nat) r', i < j → recs[i]? = some r' → r'.n ≤ r.τ.nx := by
 induction h with
 | nil s => intro j r hr; simp at hr
 | @cons o rest s r0 e recs L s' ho hO hn href hok ht ih =>
  have hend : ∀ {l s s' recs L}, Tr C P ops l s recs L s' → s.nx ≤ s'.nx := fun h => by
   induction h with
   | nil => exact Nat.le_refl _
   | cons _ _ hn _ hok _ ih => rw [qbf.2] at ih; have := hok.le; omega
  intro j r hr
  cases j with
  | zero =>
   simp at hr; subst hr
   have f : ∀ {α : Type} {us : List (Nat → Option α)} {f : Nat → α}, mix (fun i => Nat.blt i 0) us f = f := fun {α us f} => by
    funext x
    exact qel fun i u _ hd => absurd (Nat.blt_eq.mp hd) (by omega)
   refine ⟨by simp [ho], ⟨e, rfl, hok⟩, by rw [f, hO], fun t => by rw [f]; exact href t, by omega, ?_, fun i r' hi => by omega⟩
   have := hend ht
   rwa [qbf.2] at this
  | succ j =>
   obtain ⟨h1, h2, h3, h4, h5, h6, h7⟩ := ih j r (by simpa using hr)
   have e1 : (fun i => Nat.blt (i + 1) (j + 1)) = fun i => Nat.blt i j := rfl
   have e0 : Nat.blt 0 (j + 1) = true := rfl
   rw [qbf.2] at h5
   have hle := hok.le
   refine ⟨by simpa using h1, by simpa using h2, ?_, fun t => ?_, by omega, h6, fun i r' hi hr' => ?_⟩
   ·rw [h3, qf0 hO]
    simp only [List.map_cons, mix, e1, e0, if_true]
   ·refine Ref.trans ?_ (h4 t)
    simp only [List.map_cons, mix, e1, e0, if_true]
    refine qem ?_
    rw [qf1 ho]
    cases r0.uT t with
    | none => exact href t
    | some y => exact Ref.refl y
   ·cases i with
    | zero => simp at hr'; subst hr'; exact h5
    | succ i => exact h7 i r' (by omega) (by simpa using hr')
theorem Tr.end {ops l : List Oper} {s s' : St} {recs : List Rec} {L : Log} (h : Tr C P ops l s recs L s') :
  qc s'.O = mix (fun _ => true) (recs.map Rec.uB) (qc s.O) ∧ (∀ t, Ref (mix (fun _ => true) (recs.map Rec.uT) (qj s.t) t) (qj s'.t t)) ∧ s.nx ≤ s'.nx := by
 induction h with
 | nil s => exact ⟨rfl, fun t => Ref.refl _, Nat.le_refl _⟩
 | @cons o rest s r0 e recs L s' ho hO hn href hok ht ih =>
  obtain ⟨h1, h2, h3⟩ := ih
  rw [qbf.2] at h3
  have hle := hok.le
  refine ⟨?_, fun t => ?_, by omega⟩
  ·rw [h1, qf0 hO]
   simp only [List.map_cons, mix, if_true]
  ·refine Ref.trans ?_ (h2 t)
   simp only [List.map_cons, mix, if_true]
   refine qem ?_
   rw [qf1 ho]
   cases r0.uT t with
   | none => exact href t
   | some y => exact Ref.refl y
end
theorem qfJ {acc : List Nat} {i : Nat} : ∀ {l : List Edge}, (qcr acc l).testBit i = true → ∃ e ∈ l, Region.binds .any e = true ∧ (e.on = i ∨ ((acc[e.on]?).getD 0).testBit i = true) := by
 have gen : ∀ {l : List Edge} {s : Nat}, (l.foldl (fun s e => bc (Region.binds .any e) (s ||| 2 ^ e.on ||| (acc[e.on]?).getD 0) s) s).testBit i = true →
   s.testBit i = true ∨ ∃ e ∈ l, Region.binds .any e = true ∧ (e.on = i ∨ ((acc[e.on]?).getD 0).testBit i = true) := by
  intro l
  induction l with
  | nil => intro s h; exact .inl h
  | cons e l ih =>
   intro s h
   rcases ih (by simpa only [List.foldl_cons] using h) with h1 | ⟨e', he, hb, hh⟩
   ·cases hb : Region.binds .any e with
    | false => rw [hb] at h1; exact .inl h1
    | true =>
     rw [hb] at h1
     simp only [qcM, Nat.testBit_or, Bool.or_eq_true, Nat.testBit_two_pow, decide_eq_true_eq] at h1
     rcases h1 with (h1 | h1) | h1
     ·exact .inl h1
     ·exact .inr ⟨e, by simp, hb, .inl h1⟩
     ·exact .inr ⟨e, by simp, hb, .inr h1⟩
   ·exact .inr ⟨e', by simp [he], hb, hh⟩
 intro l h
 rcases gen (s := 0) h with h | h
 ·simp at h
 ·exact h
theorem qdd : ∀ {l : List Oper} {acc : List Nat}, (∀ i, i < acc.length → (qa5 l acc)[i]? = acc[i]?) ∧ (qa5 l acc).length = acc.length + l.length ∧
  ∀ (i : Nat) o, l[i]? = some o → ∃ pre, (∀ k, k < acc.length + i → pre[k]? = (qa5 l acc)[k]?) ∧ pre.length = acc.length + i ∧ (qa5 l acc)[acc.length + i]? = some (qcr pre o.after.toList)
 | [], acc => ⟨fun i _ => rfl, rfl, fun i o h => by simp at h⟩
 | o :: r, acc => by
  obtain ⟨h1, h2, h3⟩ := qdd (l := r) (acc := acc ++ [qcr acc o.after.toList])
  have e : qa5 (o :: r) acc = qa5 r (acc ++ [qcr acc o.after.toList]) := rfl
  rw [e]
  refine ⟨fun i hi => ?_, by rw [h2]; simp; omega, fun i o' ho => ?_⟩
  ·rw [h1 i (by simp; omega), List.getElem?_append_left hi]
  ·cases i with
   | zero =>
    simp at ho; subst ho
    refine ⟨acc, fun k hk => ?_, rfl, ?_⟩
    ·rw [h1 k (by simp; omega), List.getElem?_append_left (by omega)]
    ·rw [Nat.add_zero, h1 _ (by simp)]
     simp
   | succ i =>
    obtain ⟨pre, p1, p2, p3⟩ := h3 i o' (by simpa using ho)
    simp only [List.length_append, List.length_singleton] at p1 p2 p3
    refine ⟨pre, fun k hk => p1 k (by omega), by omega, ?_⟩
    rw [show acc.length + (i + 1) = acc.length + 1 + i by omega]
    exact p3
def qeO (ops : List Oper) (D : Nat → Bool) : Prop := ∀ (j : Nat) o, ops[j]? = some o → D j = true → ∀ e ∈ o.after, Region.binds .any e = true → D e.on = true
theorem qfK {ops : List Oper} {D : Nat → Bool} (hc : qeO ops D) : ∀ (j : Nat) o, ops[j]? = some o → (∀ e ∈ o.after, Region.binds .any e = true → D e.on = true) →
  ∀ i, (((qa5 ops [])[j]?).getD 0).testBit i = true → D i = true := by
 intro j
 induction j using Nat.strongRecOn with
 | _ j ih =>
  intro o ho hp i hi
  obtain ⟨pre, p1, p2, p3⟩ := (qdd (l := ops) (acc := [])).2.2 j o ho
  simp only [List.length_nil, Nat.zero_add] at p1 p2 p3
  rw [p3, Option.getD_some] at hi
  obtain ⟨e, he, hb, hh⟩ := qfJ hi
  have hd := hp e (by simpa using he) hb
  rcases hh with rfl | hh
  ·exact hd
  ·by_cases hlt : e.on < j
   ·rw [p1 _ hlt] at hh
    have hjl : e.on < ops.length := by have := (List.getElem?_eq_some_iff.1 ho).1; omega
    exact ih e.on hlt _ (List.getElem?_eq_getElem hjl) (hc e.on _ (List.getElem?_eq_getElem hjl) hd) i hh
   ·rw [List.getElem?_eq_none (by omega)] at hh
    simp at hh
theorem qe5 {ops : List Oper} {m : Nat} {b : List Nat × List Nat} {y : Oper} : ∀ {l : List Oper} {L : Log} {i n : Nat}, qci ops m b y i l L n = true →
  ∀ (k : Nat) x a, k < n → l[k]? = some x → L[k]? = some a → qbI ops a b x y (m.testBit (i + k)) = true
 | x :: r, a :: L, i, n + 1, h, k, x', a', hk, hx, ha => by
  simp only [qci, Bool.and_eq_true] at h
  cases k with
  | zero => simp at hx ha; subst hx ha; exact h.1
  | succ k =>
   have := qe5 h.2 k x' a' (by omega) (by simpa using hx) (by simpa using ha)
   rwa [show i + 1 + k = i + (k + 1) by omega] at this
 | _, _, _, 0, _, k, _, _, hk, _, _ => by omega
 | [], _, _, _ + 1, _, k, _, _, _, hx, _ => by simp at hx
 | _ :: _, [], _, _ + 1, _, k, _, _, _, _, ha => by simp at ha
theorem qcV {ops : List Oper} {L : Log} {ms : List Nat} : ∀ {l : List Oper} {L' : Log} {j : Nat}, qcU ops L ms j l L' = true → ∀ (k : Nat) y b, l[k]? = some y → L'[k]? = some b →
  (∀ e ∈ y.after, Region.binds .any e = true → e.on < j + k) ∧ qci ops ((ms[j + k]?).getD 0) b y 0 ops L (j + k) = true
 | y :: r, b :: L', j, h, k, y', b', hy, hb => by
  simp only [qcU, Bool.and_eq_true] at h
  cases k with
  | zero =>
   simp at hy hb; subst hy hb
   refine ⟨fun e he hbd => ?_, h.1.2⟩
   have := List.all_eq_true.1 h.1.1 e (by simpa using he)
   simp only [hbd, Bool.not_true, Bool.false_or] at this
   exact Nat.blt_eq.mp this
  | succ k =>
   have := qcV h.2 k y' b' (by simpa using hy) (by simpa using hb)
   rwa [show j + 1 + k = j + (k + 1) by omega] at this
 | [], _, _, _, k, _, _, hy, _ => by simp at hy
 | _ :: _, [], _, _, k, _, _, _, hb => by simp at hb
theorem qdX {l m : List Nat} (h : qcT l m = true) {x : Nat} (hx : x ∈ l) : x ∉ m := fun hm => by
 have := List.all_eq_true.1 h x hx
 simp only [Bool.not_eq_true'] at this
 have h2 : m.any (Nat.beq x) = true := List.any_eq_true.2 ⟨x, hm, Nat.beq_refl x⟩
 rw [h2] at this; cases this
structure qdC (ops : List Oper) (a b : List Nat × List Nat) (x y : Oper) : Prop where
 yr : ∀ t ∈ qbr ops y, x.dst ≠ some t
 xr : ∀ t ∈ qbr ops x, y.dst ≠ some t
 kk : ∀ id ∈ a.2, id ∉ b.2
 yk : qbz y.op = false → ∀ id ∈ a.2, id ∉ b.1
 xk : qbz x.op = false → ∀ id ∈ b.2, id ∉ a.1
theorem qhR {ops : List Oper} {a b : List Nat × List Nat} {x y : Oper} {f : Bool} (h : qbI ops a b x y f = true) : ∀ d, x.dst = some d → y.dst ≠ some d := by
 intro d hx hy
 simp only [qbI, Bool.and_eq_true, Bool.or_eq_true, Bool.not_eq_true', hx, hy] at h
 have := h.1
 simp at this
theorem qfU {ops : List Oper} {a b : List Nat × List Nat} {x y : Oper} (h : qbI ops a b x y false = true) : qdC ops a b x y := by
 simp only [qbI, Bool.false_or, Bool.and_eq_true, Bool.or_eq_true, Bool.not_eq_true'] at h
 obtain ⟨_, ⟨⟨⟨h1, h2⟩, h3⟩, h4⟩, h5⟩ := h
 refine ⟨fun t ht hd => ?_, fun t ht hd => ?_, fun id hid => qdX h3 hid, fun hb id hid => qdX (h4.resolve_left (by rw [hb]; simp)) hid, fun hb id hid => qdX (h5.resolve_left (by rw [hb]; simp)) hid⟩
 ·have := List.any_eq_false.1 h1 t ht
  simp [hd] at this
 ·have := List.any_eq_false.1 h2 t ht
  simp [hd] at this
section
variable {C : Cfg} {P : Program} {R : Type} {r : R}
structure qbw (C : Cfg) (P : Program) (ops : List Oper) (s s' : St) (recs : List Rec) (L : Log) : Prop where
 tr : Tr C P ops ops s recs L s'
 ok : qe4 ops L = true
def qaR (ops : List Oper) (i j : Nat) : Bool := (((qa5 ops [])[j]?).getD 0).testBit i
theorem qbw.pair {ops : List Oper} {s s' : St} {recs : List Rec} {L : Log} (h : qbw C P ops s s' recs L) {i j : Nat} {x y : Oper} {a b : List Nat × List Nat} (hij : i < j) (hx : ops[i]? = some x) (hy : ops[j]? = some y)
  (ha : L[i]? = some a) (hb : L[j]? = some b) : qbI ops a b x y (qaR ops i j) = true := by
 have h1 := (qcV (j := 0) h.ok j y b hy hb).2
 rw [Nat.zero_add] at h1
 have := qe5 h1 i x a hij hx ha
 rwa [Nat.zero_add] at this
structure Mx (C : Cfg) (recs : List Rec) (s0 : St) (nE : Nat) (D : Nat → Bool) (M : Mem) (φ : Plc) (a : Act) (w : World) : Prop where
 rel : Rel M φ (mix D (recs.map Rec.uB) (qc s0.O)) w
 tm : ∀ t, RV M φ (a.tmps.getD t undef) (mix D (recs.map Rec.uT) (qj s0.t) t)
 size : C.nt ≤ a.tmps.size
 defers : a.defers = []
 fresh : ∀ id, nE ≤ id → φ id = none
 fresh' : ∀ (i : Nat) r, recs[i]? = some r → D i = false → ∀ id, r.τ.nx ≤ id → id < r.n → φ id = none
 glob : Ext C.M0 M
variable {ops : List Oper} {s s' : St} {recs : List Rec} {L : Log} {D : Nat → Bool} {M : Mem} {φ : Plc} {a : Act} {w : World}
theorem qih (hW : qbw C P ops s s' recs L) (hm : Mx C recs s s'.nx D M φ a w) {j : Nat} {rj : Rec} (hj : recs[j]? = some rj) (hD : D j = false) (h1 : ∀ i, i < j → qaR ops i j = true → D i = true)
  (h2 : ∀ i, j < i → qaR ops j i = true → D i = false) :
  (∀ t ∈ qbr ops rj.o, RV M φ (a.tmps.getD t undef) (qj rj.τ.t t)) ∧
  (rj.ran = true → qbz rj.o.op = false → ∀ id ∈ qbs rj.τ.get rj.o, mix D (recs.map Rec.uB) (qc s.O) id = qc rj.τ.O id) ∧
  (∀ id, mix (fun i => D i || Nat.beq i j) (recs.map Rec.uB) (qc s.O) id = qp rj.U (mix D (recs.map Rec.uB) (qc s.O)) id) ∧
  (∀ t, mix (fun i => D i || Nat.beq i j) (recs.map Rec.uT) (qj s.t) t = if rj.o.dst = some t then rj.X else mix D (recs.map Rec.uT) (qj s.t) t) := by
 obtain ⟨oj, ⟨ej, hej, rok⟩, hB, hT, _, _, _⟩ := hW.tr.at j rj hj
 have out : ∀ (i : Nat) ri, recs[i]? = some ri → D i ≠ Nat.blt i j → ∃ ei, L[i]? = some ei ∧ qca C P ops ri ei ∧ ((i < j ∧ qdC ops ei ej ri.o rj.o) ∨ (j < i ∧ qdC ops ej ei rj.o ri.o)) := by
  intro i ri hi hd
  obtain ⟨oi, ⟨ei, hei, rki⟩, _⟩ := hW.tr.at i ri hi
  refine ⟨ei, hei, rki, ?_⟩
  rcases Nat.lt_trichotomy i j with hlt | heq | hgt
  ·left
   refine ⟨hlt, qfU ?_⟩
   have hp := hW.pair hlt oi oj hei hej
   cases hf : qaR ops i j with
   | false => rwa [hf] at hp
   | true =>
    have e1 := h1 i hlt hf
    have e2 : Nat.blt i j = true := Nat.blt_eq.mpr hlt
    rw [e1, e2] at hd
    exact absurd rfl hd
  ·subst heq
   have : Nat.blt i i = false := by cases e : Nat.blt i i; rfl; exact absurd (Nat.blt_eq.mp e) (by omega)
   rw [this] at hd
   exact absurd hD hd
  ·right
   refine ⟨hgt, qfU ?_⟩
   have hp := hW.pair hgt oj oi hej hei
   cases hf : qaR ops j i with
   | false => rwa [hf] at hp
   | true =>
    have e1 := h2 i hgt hf
    have e2 : Nat.blt i j = false := by cases e : Nat.blt i j; rfl; exact absurd (Nat.blt_eq.mp e) (by omega)
    rw [e1, e2] at hd
    exact absurd rfl hd
 have getB : ∀ (i : Nat) u, (recs.map Rec.uB)[i]? = some u → ∃ ri, recs[i]? = some ri ∧ u = ri.uB := fun i u hu => by
  rw [List.getElem?_map] at hu
  cases hr : recs[i]? with
  | none => rw [hr] at hu; cases hu
  | some ri => rw [hr] at hu; cases hu; exact ⟨ri, rfl, rfl⟩
 have getT : ∀ (i : Nat) u, (recs.map Rec.uT)[i]? = some u → ∃ ri, recs[i]? = some ri ∧ u = ri.uT := fun i u hu => by
  rw [List.getElem?_map] at hu
  cases hr : recs[i]? with
  | none => rw [hr] at hu; cases hu
  | some ri => rw [hr] at hu; cases hu; exact ⟨ri, rfl, rfl⟩
 have uBnone : ∀ {ri : Rec} {id : Nat}, id ∉ qaU ri.U → ri.uB id = none := fun {ri id} h => by unfold Rec.uB; rw [if_neg h]
 have uTnone : ∀ {ri : Rec} {t : Nat}, ri.o.dst ≠ some t → ri.uT t = none := fun {ri t} h => by unfold Rec.uT; rw [if_neg h]
 have later : ∀ (i : Nat) ri, j < i → recs[i]? = some ri → D i = true → D i ≠ Nat.blt i j := fun i ri hi _ hd => by
  have e2 : Nat.blt i j = false := by cases e : Nat.blt i j; rfl; exact absurd (Nat.blt_eq.mp e) (by omega)
  rw [hd, e2]; decide
 refine ⟨fun t ht => ?_, fun hran hbl id hid => ?_, fun id => ?_, fun t => ?_⟩
 ·have e : mix D (recs.map Rec.uT) (qj s.t) t = mix (fun i => Nat.blt i j) (recs.map Rec.uT) (qj s.t) t := qbF (fun i u hu hd => by
   obtain ⟨ri, hri, rfl⟩ := getT i u hu
   obtain ⟨ei, _, _, ⟨_, hap⟩ | ⟨_, hap⟩⟩ := out i ri hri hd
   ·exact uTnone (hap.yr t ht)
   ·exact uTnone (hap.xr t ht)) rfl
  have := hm.tm t
  rw [e] at this
  exact hT t M φ _ this
 ·rw [hB]
  refine qbF (fun i u hu hd => ?_) rfl
  obtain ⟨ri, hri, rfl⟩ := getB i u hu
  obtain ⟨ei, _, rki, ⟨_, hap⟩ | ⟨_, hap⟩⟩ := out i ri hri hd
  ·exact uBnone fun hk => hap.yk hbl id (by rw [rki.keys]; exact hk) (by rw [(rok.yes hran).2]; exact hid)
  ·exact uBnone fun hk => hap.xk hbl id (by rw [rki.keys]; exact hk) (by rw [(rok.yes hran).2]; exact hid)
 ·rw [qen (v := rj.uB) (by rw [List.getElem?_map, hj]; rfl) hD, qgq]
  ·rfl
  ·intro i u hi hu hd
   obtain ⟨ri, hri, rfl⟩ := getB i u hu
   obtain ⟨ei, _, rki, ⟨hc, hap⟩ | ⟨_, hap⟩⟩ := out i ri hri (later i ri hi hri hd)
   ·omega
   ·by_cases hk : id ∈ qaU rj.U
    ·exact .inr (uBnone fun hk' => hap.kk id (by rw [rok.keys]; exact hk) (by rw [rki.keys]; exact hk'))
    ·exact .inl (uBnone hk)
 ·rw [qen (v := rj.uT) (by rw [List.getElem?_map, hj]; rfl) hD]
  ·unfold Rec.uT
   split <;> rfl
  ·intro i u hi hu hd
   obtain ⟨ri, hri, rfl⟩ := getT i u hu
   obtain ⟨oi, ⟨ei, hei, rki⟩, _⟩ := hW.tr.at i ri hri
   have hp := qhR (hW.pair hi oj oi hej hei)
   by_cases hk : rj.o.dst = some t
   ·exact .inr (uTnone (hp t hk))
   ·exact .inl (uTnone hk)
theorem qgd (hW : qbw C P ops s s' recs L) (hm : Mx C recs s s'.nx D M φ a w) {j : Nat} {rj : Rec} (hj : recs[j]? = some rj) {φ' : Plc} (hφ : ∀ id, id < rj.τ.nx ∨ rj.n ≤ id → φ' id = φ id) :
  (∀ id, s'.nx ≤ id → φ' id = none) ∧ ∀ (i : Nat) r, recs[i]? = some r → (D i || Nat.beq i j) = false → ∀ id, r.τ.nx ≤ id → id < r.n → φ' id = none := by
 obtain ⟨_, _, _, _, _, hn, hlow⟩ := hW.tr.at j rj hj
 refine ⟨fun id hid => by rw [hφ id (.inr (by omega))]; exact hm.fresh id hid, fun i ri hi hd id h1 h2 => ?_⟩
 simp only [Bool.or_eq_false_iff] at hd
 obtain ⟨_, _, _, _, _, hn', hlow'⟩ := hW.tr.at i ri hi
 have hne : i ≠ j := fun e => by subst e; have := Nat.beq_refl i; rw [hd.2] at this; cases this
 rw [hφ id ?_]
 ·exact hm.fresh' i ri hi hd.1 id h1 h2
 ·rcases Nat.lt_or_gt_of_ne hne with h | h
  ·have := hlow i ri h hi; exact .inl (by omega)
  ·have := hlow' j rj h hj; exact .inr (by omega)
theorem qhm {l : List Operand} {t : Nat} (h : Operand.tmp t ∈ l) : t ∈ qcv l := by
 unfold qcv
 exact List.mem_filterMap.2 ⟨.tmp t, h, rfl⟩
theorem qii (hW : qbw C P ops s s' recs L) (hm : Mx C recs s s'.nx D M φ a w) {j : Nat} {oj : Oper} (hoj : ops[j]? = some oj) (hD : D j = false) (h1 : ∀ i, i < j → qaR ops i j = true → D i = true)
  (h2 : ∀ i, j < i → qaR ops j i = true → D i = false) {Q : Exit → Act → World → Prop} {N : Act → World → Prop}
  (hN : ∀ M' φ' a' w', Mx C recs s s'.nx (fun i => D i || Nat.beq i j) M' φ' a' w' →
   Stp M φ (mix D (recs.map Rec.uB) (qc s.O)) w M' φ' (mix (fun i => D i || Nat.beq i j) (recs.map Rec.uB) (qc s.O)) w' → qr φ φ' → N a' w') :
  wpOp P ops.toArray Q j N a w := by
 have hjl : j < recs.length := by rw [hW.tr.length.1]; exact (List.getElem?_eq_some_iff.1 hoj).1
 obtain ⟨rj, hj⟩ : ∃ rj, recs[j]? = some rj := ⟨_, List.getElem?_eq_getElem hjl⟩
 obtain ⟨oj', ⟨ej, hej, rok⟩, hB, hT, _, _, _⟩ := hW.tr.at j rj hj
 rw [hoj] at oj'
 cases oj'
 obtain ⟨f1, f2, f3, f4⟩ := qih hW hm hj hD h1 h2
 have f3' : mix (fun i => D i || Nat.beq i j) (recs.map Rec.uB) (qc s.O) = qp rj.U (mix D (recs.map Rec.uB) (qc s.O)) := funext f3
 have hdst : ∀ d, rj.o.dst = some d → d < a.tmps.size := fun d hd => Nat.lt_of_lt_of_le (rok.dst d hd) hm.size
 have hwant : Region.wanted rj.o (yielded ops.toArray a.tmps) = rj.ran := by
  have hg := rok.grd
  unfold qbl at hg
  unfold Region.wanted
  cases hgu : rj.o.guard with
  | none => rw [hgu] at hg; exact hg.symm
  | some q =>
   obtain ⟨g, b⟩ := q
   rw [hgu] at hg
   obtain ⟨d, hd, hdn, hh⟩ := hg
   have hrd : d ∈ qbr ops rj.o := by
    unfold qbr
    rw [hgu]
    simp only [hd, List.mem_append]
    exact .inr (by simp)
   have hv := f1 d hrd
   have hd' : (ops.toArray[g]?).bind (·.dst) = some d := by simpa using hd
   simp only
   rcases hh with ⟨hu, hr⟩ | ⟨t, ht, hr⟩
   ·rw [qgv hd' (Nat.lt_of_lt_of_le hdn hm.size) (by
     revert hu hv
     cases qj rj.τ.t d <;> simp only [qcn] <;> intro hv hu <;> first | exact hv | cases hu), hr]
    rfl
   ·rw [qgu hd' (Nat.lt_of_lt_of_le hdn hm.size) (b := t) (by
     rw [ht] at hv
     cases t
     ·exact hv
     ·exact hv), hr]
    cases t <;> cases b <;> rfl
 unfold wpOp
 simp only [List.getElem?_toArray, hoj, hwant]
 cases hran : rj.ran with
 | true =>
  simp only [if_true]
  refine .inl (qe3 ((rok.yes hran).1.2 M φ _ w a.eval ⟨hm.rel, fun y hy => ?_, fun hb => f2 hran hb, fun h => (by cases h), hm.glob⟩ (hm.fresh' j rj hj hD)) fun v w' hp => ?_)
  ·cases y with
   | tmp t => exact f1 t (by unfold qbr; exact List.mem_append_left _ (qhm hy))
   | const v => exact (qfP v).rv
   | global g => exact (show RV M φ _ (.glob g) from rfl)
   | func f => exact rfl
  ·obtain ⟨M', φ', p1, p2, p3, p4, p5⟩ := hp
   obtain ⟨fr1, fr2⟩ := qgd (D := D) hW hm hj p4
   refine hN M' φ' _ w' ⟨by rw [f3']; exact p2, fun t => ?_, by rw [qdr]; exact hm.size, by rw [qcS]; exact hm.defers, fr1, fr2, hm.glob.trans p3.mem⟩ (by rw [f3']; exact p3) p5
   rw [f4, qc0 hdst]
   split
   ·exact p1
   ·exact (hm.tm t).mono p3.mem p5
 | false =>
  simp only [Bool.false_eq_true, if_false]
  obtain ⟨n1, n2, n3⟩ := rok.no hran
  have e : mix (fun i => D i || Nat.beq i j) (recs.map Rec.uB) (qc s.O) = mix D (recs.map Rec.uB) (qc s.O) := by rw [f3', n2]; rfl
  obtain ⟨fr1, fr2⟩ := qgd (D := D) hW hm hj (φ' := φ) (fun _ _ => rfl)
  refine hN M φ _ w ⟨by rw [e]; exact hm.rel, fun t => ?_, by rw [qdr]; exact hm.size, by rw [qcS]; exact hm.defers, fr1, fr2, hm.glob⟩ (by rw [e]; exact Stp.refl M φ _ w) (qr.refl φ)
  rw [f4, qc0 hdst]
  split
  ·rw [n1]; exact qgo
  ·exact hm.tm t
theorem qix {i j : Nat} (h : qaR ops i j = true) (hW : qbw C P ops s s' recs L) : j < ops.length → i < j := by
 intro hj
 have key : ∀ (j : Nat), j < ops.length → ∀ i, qaR ops i j = true → i < j := by
  intro j
  induction j using Nat.strongRecOn with
  | _ j ih =>
   intro hj i hi
   obtain ⟨pre, p1, p2, p3⟩ := (qdd (l := ops) (acc := [])).2.2 j _ (List.getElem?_eq_getElem hj)
   simp only [List.length_nil, Nat.zero_add] at p1 p2 p3
   unfold qaR at hi
   rw [p3, Option.getD_some] at hi
   obtain ⟨e, he, hb, hh⟩ := qfJ hi
   have hL : j < L.length := by rw [hW.tr.length.2]; exact hj
   have hlt := (qcV (j := 0) hW.ok j _ _ (List.getElem?_eq_getElem hj) (List.getElem?_eq_getElem hL)).1 e (by simpa using he) hb
   rw [Nat.zero_add] at hlt
   rcases hh with rfl | hh
   ·exact hlt
   ·rw [p1 _ hlt] at hh
    have := ih e.on hlt (by omega) i hh
    omega
 exact key j hj i h
theorem qgE (hW : qbw C P ops s s' recs L) {Q : Exit → Act → World → Prop} {M0 : Mem} {φ0 : Plc} {w0 : World}
  (hQ : ∀ M φ a w, StR C s' M φ a w → Stp M0 φ0 (qc s.O) w0 M φ (qc s'.O) w → qr φ0 φ → Q .normal a w) :
  ∀ (fuel : Nat) (listed : Array Bool) (unl : List Nat) (M : Mem) (φ : Plc) (a : Act) (w : World), listed.size = ops.length → unl.length = fuel → (∀ i, i < ops.length → listed.getD i false = false → i ∈ unl) →
   qeO ops (fun i => listed.getD i false) → Mx C recs s s'.nx (fun i => listed.getD i false) M φ a w → Stp M0 φ0 (qc s.O) w0 M φ (mix (fun i => listed.getD i false) (recs.map Rec.uB) (qc s.O)) w → qr φ0 φ →
   wpAny P .any ops.toArray Q fuel listed a w := by
 have done : ∀ (listed : Array Bool) M φ a w, (∀ i, i < ops.length → listed.getD i false = true) → Mx C recs s s'.nx (fun i => listed.getD i false) M φ a w →
   Stp M0 φ0 (qc s.O) w0 M φ (mix (fun i => listed.getD i false) (recs.map Rec.uB) (qc s.O)) w → qr φ0 φ → Q .normal a w := by
  intro listed M φ a w hall hm hs hp
  obtain ⟨e1, e2, e3⟩ := hW.tr.end
  have hlen := hW.tr.length.1
  have eB : mix (fun i => listed.getD i false) (recs.map Rec.uB) (qc s.O) = qc s'.O := by
   rw [e1]
   funext x
   exact qbF (fun i u hu hd => absurd (hall i (by have := (List.getElem?_eq_some_iff.1 hu).1; simp at this; omega)) hd) rfl
  rw [eB] at hs
  refine hQ M φ a w ⟨by have := hm.rel; rwa [eB] at this, fun t => ?_, hm.size, hm.defers, hm.fresh, hm.glob⟩ hs hp
  refine e2 t M φ _ ?_
  have := hm.tm t
  rwa [qbF (D' := fun _ => true) (f' := qj s.t) (fun i u hu hd => absurd (hall i (by have := (List.getElem?_eq_some_iff.1 hu).1; simp at this; omega)) hd) rfl] at this
 have first : ∀ (listed : Array Bool), listed.size = ops.length → (∀ i, i < ops.length → listed.getD i false = true) ∨ Region.ready .any ops.toArray listed ≠ [] := by
  intro listed hsz
  by_cases hall : ∀ i, i < ops.length → listed.getD i false = true
  ·exact .inl hall
  right
  have hex : ∃ i, i < ops.length ∧ listed.getD i false = false := Classical.byContradiction fun hn => hall fun i hi => by
   cases e : listed.getD i false with
   | true => rfl
   | false => exact absurd ⟨i, hi, e⟩ hn
  have least : ∀ n, (∃ i, i < n ∧ i < ops.length ∧ listed.getD i false = false) → ∃ i, i < ops.length ∧ listed.getD i false = false ∧ ∀ k, k < i → listed.getD k false = true := by
   intro n
   induction n with
   | zero => rintro ⟨i, h, _⟩; omega
   | succ n ih =>
    rintro ⟨i, h1, h2, h3⟩
    by_cases hlow : ∃ i, i < n ∧ i < ops.length ∧ listed.getD i false = false
    ·exact ih hlow
    ·refine ⟨i, h2, h3, fun k hk => ?_⟩
     cases e : listed.getD k false with
     | true => rfl
     | false => exact absurd ⟨k, by omega, by omega, e⟩ hlow
  obtain ⟨i, hi⟩ := hex
  obtain ⟨i, h1, h2, h3⟩ := least (i + 1) ⟨i, by omega, hi⟩
  intro hnil
  have : i ∈ Region.ready .any ops.toArray listed := by
   rw [mem_ready]
   refine ⟨?_, ops[i], by simp [h1], fun e he hb => ?_⟩
   ·have : i < listed.size := by omega
    simp only [Array.getD_eq_getD_getElem?, Array.getElem?_eq_getElem this, Option.getD_some] at h2 ⊢
    exact h2
   ·have hL : i < L.length := by rw [hW.tr.length.2]; exact h1
    have := (qcV (j := 0) hW.ok i _ _ (List.getElem?_eq_getElem h1) (List.getElem?_eq_getElem hL)).1 e he hb
    exact h3 _ (by omega)
  rw [hnil] at this
  cases this
 intro fuel
 induction fuel with
 | zero =>
  intro listed unl M φ a w hsz hul hun hc hm hs hp
  have hu0 : unl = [] := List.length_eq_zero_iff.1 hul
  subst hu0
  have hall : ∀ i, i < ops.length → listed.getD i false = true := fun i hi => by
   cases e : listed.getD i false with
   | true => rfl
   | false => exact absurd (hun i hi e) (by simp)
  refine ⟨?_, done listed M φ a w hall hm hs hp⟩
  cases hr : Region.ready .any ops.toArray listed with
  | nil => rfl
  | cons i rest =>
   have hi : i ∈ Region.ready .any ops.toArray listed := by rw [hr]; simp
   rw [mem_ready] at hi
   obtain ⟨h0, o, ho, _⟩ := hi
   have hlt : i < ops.length := by have := (Array.getElem?_eq_some_iff.1 ho).1; simpa using this
   have := hall i hlt
   have hls : i < listed.size := by omega
   simp only [Array.getD_eq_getD_getElem?, Array.getElem?_eq_getElem hls, Option.getD_some] at h0 this
   rw [h0] at this; cases this
 | succ fuel ih =>
  intro listed unl M φ a w hsz hul hun hc hm hs hp
  refine ⟨fun hnil => ?_, fun j hj => ?_⟩
  ·rcases first listed hsz with h | h
   ·exact done listed M φ a w h hm hs hp
   ·exact absurd hnil h
  ·rw [mem_ready] at hj
   obtain ⟨h0, oj, hoj, hall⟩ := hj
   have hoj : ops[j]? = some oj := by simpa using hoj
   have hlt : j < ops.length := (List.getElem?_eq_some_iff.1 hoj).1
   have hls : j < listed.size := by omega
   have hDj : listed.getD j false = false := by
    simp only [Array.getD_eq_getD_getElem?, Array.getElem?_eq_getElem hls, Option.getD_some] at h0 ⊢
    exact h0
   have hset : (fun i => (listed.setIfInBounds j true).getD i false) = fun i => listed.getD i false || Nat.beq i j := by
    funext i
    by_cases e : j = i
    ·subst e
     simp [hls]
    ·rw [getD_set_ne false e]
     have : Nat.beq i j = false := by cases h : Nat.beq i j; rfl; exact absurd (qu h).symm e
     rw [this, Bool.or_false]
   refine qii (D := fun i => listed.getD i false) hW hm hoj hDj (fun i _ hf => qfK hc j oj hoj hall i hf) (fun i hi hf => ?_) fun M' φ' a' w' hm' hs' hp' => ?_
   ·cases e : listed.getD i false with
    | false => rfl
    | true =>
     by_cases hil : i < ops.length
     ·have := qfK hc i _ (List.getElem?_eq_getElem hil) (hc i _ (List.getElem?_eq_getElem hil) e) j hf
      rw [hDj] at this; cases this
     ·unfold qaR at hf
      have := (qdd (l := ops) (acc := [])).2.1
      rw [List.getElem?_eq_none (by simp at this; omega)] at hf
      simp at hf
   ·refine ih _ (unl.erase j) M' φ' a' w' (by simpa using hsz) ?_ (fun i hi hd => ?_) ?_ (by rw [hset]; exact hm') (by rw [hset]; exact hs.trans hs') (hp.trans hp')
    ·rw [List.length_erase_of_mem (hun j hlt hDj)]
     omega
    ·have hdd : (listed.getD i false || Nat.beq i j) = false := by rw [← congrFun hset i]; exact hd
     simp only [Bool.or_eq_false_iff] at hdd
     have hne : i ≠ j := fun e => by subst e; have := Nat.beq_refl i; rw [hdd.2] at this; cases this
     exact (List.mem_erase_of_ne hne).2 (hun i hi hdd.1)
    ·rw [hset]
     intro i o ho hd e he hb
     simp only [Bool.or_eq_true] at hd ⊢
     rcases hd with hd | hd
     ·exact .inl (hc i o ho hd e he hb)
     ·have := qu hd
      subst this
      rw [hoj] at ho
      cases ho
      exact .inl (hall e he hb)
end
theorem Stp.grew {M : Mem} {φ : Plc} {B : Nat → Blk} {w w' : World} (h : qt w w') : Stp M φ B w M φ B w' :=
 ⟨Ext.refl M, h.kp _, fun _ _ h => .inl h, fun _ _ _ h => .inl h⟩
section
variable {C : Cfg} {P : Program} {R : Type} {r : R}
theorem qgZ {O : List (Nat × Blk)} {ns : List Nat} : qc (qT (qc O) ns ++ O) = fun id => if id ∈ ns then qn (qc O id) else qc O id := by
 funext id
 rw [qbZ, qdz]
theorem qhV {ops : Array Oper} {s : St} {M : Mem} {φ : Plc} {a : Act} {w : World} (hs : StR C s M φ a w) : ∃ M', StR C (qcw ops s) M' φ a w ∧ Stp M φ (qc s.O) w M' φ (qc (qcw ops s).O) w := by
 unfold qcw
 generalize (ops.toList.any (fun o => qfF o.op) || !(ops.toList.any fun o => qfz o.op)) = t
 cases t with
 | true => exact ⟨M, hs, Stp.refl M φ _ w⟩
 | false =>
  simp only [qbQ]
  generalize qQ ((ops.toList.flatMap fun o => qcv o.op.operands.toList).map (qj s.t)) = ns
  obtain ⟨M', h1, h2⟩ := qbU hs.rel ns
  rw [← qgZ] at h1 h2
  exact ⟨M', ⟨h1, fun i => (hs.tm i).mono h2.mem (qr.refl φ), hs.size, hs.defers, hs.fresh, hs.glob.trans h2.mem⟩, h2⟩
theorem qhY (hT : TOk P C.T) (hG : ∀ f F, F ∈ C.G f → qR P C.M0 f F) (hm : P.follows .mixedOrders = true) {H : Hd R} {id p : Nat} {ops : Array Oper} {draw : Bool} {K : Kt R} {s : St} {Q : Exit → Act → World → Prop}
  (h : evN C H (.region id ops draw) p K s = some r) : ∃ s', K .normal s' = some r ∧ qbu C s s' fun _ _ a w N => (∀ a w, N a w → Q .normal a w) → (Code.region id ops draw).wp P Q a w := by
 simp only [evN] at h
 cases draw with
 | false =>
  simp only [qbQ] at h
  obtain ⟨s', h1, g⟩ := qd2 (Q := Q) hT hG ops.toList 0 s (fun j => by simp) h
  refine ⟨s', h1, fun M φ a w hs N hN hQ => wp_region ?_⟩
  have := g M φ a w hs N hN hQ
  rwa [← List.range_eq_range', show ops.toList.length = ops.size by simp] at this
 | true =>
  simp only [qcM] at h
  obtain ⟨recs, L, s', h1, ht⟩ := qd1 (P := P) hT hG ops.toList _ _ h
  rw [List.nil_append] at h1
  obtain ⟨hok, h2⟩ := qf h1
  refine ⟨s', h2, fun M φ a w hs N hN hQ => wp_region_any hm ?_⟩
  obtain ⟨M1, hs1, st1⟩ := qhV (ops := ops) hs
  have hg : qt w { w with drawn := w.drawn + 1 } := (qt.refl w).drew
  have e0 : ∀ i, (Array.replicate ops.size false).getD i false = false := fun i => by
   by_cases hi : i < ops.size
   ·simp [hi]
   ·simp [hi]
  have eD : (fun i => (Array.replicate ops.size false).getD i false) = fun _ => false := funext e0
  have mx : ∀ {α : Type} {us : List (Nat → Option α)} {f : Nat → α}, mix (fun _ => false) us f = f := fun {α us f} => by
   funext x; exact qel fun i u _ hd => by cases hd
  have hQ' : ∀ M' φ' a' w', StR C s' M' φ' a' w' → Stp M1 φ (qc (qcw ops s).O) { w with drawn := w.drawn + 1 } M' φ' (qc s'.O) w' → qr φ φ' → Q .normal a' w' := fun M' φ' a' w' k1 k2 k3 =>
   hQ _ _ (hN M' φ' a' w' k1 ((st1.trans (Stp.grew hg)).trans k2) k3)
  have := qgE (P := P) (Q := Q) ⟨ht, hok⟩ hQ' ops.size (Array.replicate ops.size false) (List.range ops.size) M1 φ a { w with drawn := w.drawn + 1 } (by simp) (by simp)
   (fun i hi _ => by simpa using hi) (fun j o _ hd => by simp only [e0] at hd; cases hd) (by
    rw [eD]
    exact ⟨by rw [mx]; exact hs1.rel.grew hg, fun t => by rw [mx]; exact hs1.tm t, hs1.size, hs1.defers, fun id hid => hs1.fresh id (by have := ht.end.2.2; omega),
     fun i r hi _ id h1 _ => hs1.fresh id (by have := (ht.at i r hi).2.2.2.2.1; omega), hs1.glob⟩)
   (by rw [eD, mx]; exact Stp.refl _ _ _ _) (qr.refl φ)
  simpa using this
structure qaZ where
 M : Mem
 φ : Plc
 B : Nat → Blk
 w : World
 p0 : Option Pl
structure Inv (E : qaZ) (s : St) (M : Mem) (φ : Plc) (w : World) : Prop where
 stp : Stp E.M E.φ E.B E.w M φ (qc s.O) w
 lent : ∀ p, E.p0 = some p → φ 0 = some p
theorem Inv.step {E : qaZ} {s s' : St} {M M' : Mem} {φ φ' : Plc} {w w' : World} (h : Inv E s M φ w) (hs : Stp M φ (qc s.O) w M' φ' (qc s'.O) w') (hp : qr φ φ') : Inv E s' M' φ' w' :=
 ⟨h.stp.trans hs, fun p hp0 => hp _ _ (h.lent p hp0)⟩
def ex : Ex → Exit | .normal => .normal | .exit id => .exit id | .ret => .ret
def qa0 (C : Cfg) (E : qaZ) (K : Kt R) (r : R) (Q : Exit → Act → World → Prop) : Prop :=
 ∀ e s, K e s = some r → ∀ M φ a w, StR C s M φ a w → Inv E s M φ w → Q (ex e) a w
def qaN (P : Program) (c : Code) (Q : Exit → Act → World → Prop) (a : Act) (w : World) : Prop :=
 ∀ (b : Frame) (k : List Item) (cs : List Frame), ∃ e a' w', Q e a' w' ∧ Arrives P (lone (b.at a (.code c :: .inLoop c :: k)) cs w) b k cs e a' w'
theorem qaN.wp {c : Code} {Q : Exit → Act → World → Prop} {a : Act} {w : World} (h : qaN P c Q a w) : (Code.loop c).wp P Q a w :=
 fun b k cs => let ⟨e, a', w', q, r⟩ := h b k cs; ⟨e, a', w', q, .of_steps (.one step_loop) r⟩
theorem qaN.of {c : Code} {Q : Exit → Act → World → Prop} {a : Act} {w : World} (h : c.wp P (Exit.then (qaN P c Q) Q) a w) : qaN P c Q a w := by
 intro b k cs
 obtain ⟨e, a₁, w₁, hq, harr⟩ := h b (.inLoop c :: k) cs
 cases e with
 | normal =>
  obtain ⟨e₂, a₂, w₂, hq₂, harr₂⟩ := hq b k cs
  exact ⟨e₂, a₂, w₂, hq₂, .of_steps (Steps.trans harr (.one step_inLoop)) harr₂⟩
 | exit id => exact ⟨_, a₁, w₁, hq, .pass (x := .inLoop c) rfl (fun _ _ => .inl (by simp)) harr⟩
 | goto l => exact ⟨_, a₁, w₁, hq, .pass (x := .inLoop c) rfl (fun _ _ => .inl (by simp)) harr⟩
 | ret => exact ⟨_, a₁, w₁, hq, .pass (x := .inLoop c) rfl (fun _ _ => .inl (by simp)) harr⟩
 | panic ch => exact ⟨_, a₁, w₁, hq, .pass (x := .inLoop c) rfl (fun _ _ => .inl (by simp)) harr⟩
 | outgrown => exact ⟨_, a₁, w₁, hq, .pass (x := .inLoop c) rfl (fun _ _ => .inl (by simp)) harr⟩
def qm (P : Program) : Code → List Bool → (Exit → Act → World → Prop) → Option (Code × (Exit → Act → World → Prop))
 | c, [], Q => some (c, Q)
 | .seq a b, false :: ds, Q => qm P a ds (Exit.then (b.wp P Q) Q)
 | .seq _ b, true :: ds, Q => qm P b ds Q
 | .cond _ a _, false :: ds, Q => qm P a ds Q
 | .cond _ _ b, true :: ds, Q => qm P b ds Q
 | .block id a, false :: ds, Q => qm P a ds (Exit.inBlock id Q)
 | .loop a, false :: ds, Q => qm P a ds (Exit.then (qaN P a Q) Q)
 | .scope a, false :: ds, Q => qm P a ds (Exit.noGoto Q)
 | _, _, _ => none
theorem qag : ∀ {c : Code} {ds es : List Bool} {Q : Exit → Act → World → Prop} {c' : Code} {Q' : Exit → Act → World → Prop}, qm P c ds Q = some (c', Q') → qm P c (ds ++ es) Q = qm P c' es Q'
 | c, [], es, Q, c', Q', h => by
  have : qm P c [] Q = some (c, Q) := by unfold qm; cases c <;> rfl
  rw [this] at h
  cases h; rfl
 | .seq a b, false :: ds, es, Q, c', Q', h => by simp only [qm, List.cons_append] at h ⊢; exact qag h
 | .seq a b, true :: ds, es, Q, c', Q', h => by simp only [qm, List.cons_append] at h ⊢; exact qag h
 | .cond _ a b, false :: ds, es, Q, c', Q', h => by simp only [qm, List.cons_append] at h ⊢; exact qag h
 | .cond _ a b, true :: ds, es, Q, c', Q', h => by simp only [qm, List.cons_append] at h ⊢; exact qag h
 | .block id a, false :: ds, es, Q, c', Q', h => by simp only [qm, List.cons_append] at h ⊢; exact qag h
 | .loop a, false :: ds, es, Q, c', Q', h => by simp only [qm, List.cons_append] at h ⊢; exact qag h
 | .scope a, false :: ds, es, Q, c', Q', h => by simp only [qm, List.cons_append] at h ⊢; exact qag h
 | .block id a, true :: ds, _, _, _, _, h => by simp [qm] at h
 | .loop a, true :: ds, _, _, _, _, h => by simp [qm] at h
 | .scope a, true :: ds, _, _, _, _, h => by simp [qm] at h
 | .skip, _ :: _, _, _, _, _, h => by simp [qm] at h
 | .region _ _ _, _ :: _, _, _, _, _, h => by simp [qm] at h
 | .rangeFunc _ _ _ _, _ :: _, _, _, _, _, h => by simp [qm] at h
 | .exit _, _ :: _, _, _, _, _, h => by simp [qm] at h
 | .label _, _ :: _, _, _, _, _, h => by simp [qm] at h
 | .goto _, _ :: _, _, _, _, _, h => by simp [qm] at h
 | .ret, _ :: _, _, _, _, _, h => by simp [qm] at h
 | .refuse _, _ :: _, _, _, _, _, h => by simp [qm] at h
theorem qau : ∀ {ds es : List Bool} {n : Nat}, qD (ds ++ es) n = qD es (qD ds n)
 | [], _, _ => rfl
 | false :: ds, es, n => qau (ds := ds)
 | true :: ds, es, n => qau (ds := ds)
def qcD (P : Program) (c : Code) (Q : Exit → Act → World → Prop) (a : Act) (w : World) : Prop :=
 match c with | .loop x => qaN P x Q a w | c => c.wp P Q a w
theorem qcD.wp {c : Code} {Q : Exit → Act → World → Prop} {a : Act} {w : World} (h : qcD P c Q a w) : c.wp P Q a w := by
 cases c <;> first | exact h | exact qaN.wp h
def qcE (C : Cfg) (P : Program) (E : qaZ) (c0 : Code) (Q0 : Exit → Act → World → Prop) (H : Hd R) (r : R) : Prop :=
 ∀ ds i t, qcl C.cuts 0 (qD ds 1) = some (i, t) → ∀ c Q, qm P c0 ds Q0 = some (c, Q) → ∀ s, qcL H i t.vs s = some r → ∀ M φ a w, StR C s M φ a w → Inv E s M φ w → qcD P c Q a w
theorem qaP {E : qaZ} {c0 : Code} {Q0 : Exit → Act → World → Prop} {H : Hd R} (hcl : qcE C P E c0 Q0 H r) {ds : List Bool} {p : Nat} (hp : p = qD ds 1) {c : Code} {Q : Exit → Act → World → Prop} (hw : qm P c0 ds Q0 = some (c, Q)) {f : St → Option R} {s : St}
  (h : qae C H p f s = some r) (hf : f s = some r → ∀ M φ a w, StR C s M φ a w → Inv E s M φ w → c.wp P Q a w) : ∀ M φ a w, StR C s M φ a w → Inv E s M φ w → c.wp P Q a w := by
 unfold qae at h
 split at h
 ·rename_i i t hfc
  subst hp
  exact fun M φ a w hs hi => (hcl ds i t hfc c Q hw s h M φ a w hs hi).wp
 ·exact hf h
theorem qa0.noGoto {E : qaZ} {K : Kt R} {Q : Exit → Act → World → Prop} (h : qa0 C E K r Q) : qa0 C E K r (Exit.noGoto Q) := fun e s hK M φ a w hs hi => by
 have := h e s hK M φ a w hs hi
 cases e <;> exact this
theorem qaL (hT : TOk P C.T) (hG : ∀ f F, F ∈ C.G f → qR P C.M0 f F) (hm : P.follows .mixedOrders = true) {E : qaZ} {c0 : Code} {Q0 : Exit → Act → World → Prop} {H : Hd R} (hcl : qcE C P E c0 Q0 H r) :
  ∀ (c : Code) (ds : List Bool) (p : Nat) (Q : Exit → Act → World → Prop) (K : Kt R) (s : St), p = qD ds 1 → qm P c0 ds Q0 = some (c, Q) → evN C H c p K s = some r → qa0 C E K r Q →
   ∀ M φ a w, StR C s M φ a w → Inv E s M φ w → c.wp P Q a w
 | .skip, ds, p, Q, K, s, hp, hw, h, hK => fun M φ a w hs hi => wp_skip (hK .normal s h M φ a w hs hi)
 | .label l, ds, p, Q, K, s, hp, hw, h, hK => fun M φ a w hs hi => wp_label (hK .normal s h M φ a w hs hi)
 | .exit id, ds, p, Q, K, s, hp, hw, h, hK => fun M φ a w hs hi => wp_exit (hK (.exit id) s h M φ a w hs hi)
 | .ret, ds, p, Q, K, s, hp, hw, h, hK => fun M φ a w hs hi => wp_ret (hK .ret s h M φ a w hs hi)
 | .region id ops draw, ds, p, Q, K, s, hp, hw, h, hK => fun M φ a w hs hi => by
  obtain ⟨s', h1, g⟩ := qhY (Q := Q) hT hG hm h
  exact g M φ a w hs (fun a w => Q .normal a w) (fun M' φ' a' w' k1 k2 k3 => hK .normal s' h1 M' φ' a' w' k1 (hi.step k2 k3)) (fun _ _ h => h)
 | .seq x y, ds, p, Q, K, s, hp, hw, h, hK => fun M φ a w hs hi => by
  simp only [evN] at h
  refine wp_seq ?_
  have wx : qm P c0 (ds ++ [false]) Q0 = some (x, Exit.then (y.wp P Q) Q) := by rw [qag hw]; unfold qm; cases x <;> rfl
  have wy : qm P c0 (ds ++ [true]) Q0 = some (y, Q) := by rw [qag hw]; unfold qm; cases y <;> rfl
  have px : 2 * p = qD (ds ++ [false]) 1 := by rw [qau, ← hp]; rfl
  have py : 2 * p + 1 = qD (ds ++ [true]) 1 := by rw [qau, ← hp]; rfl
  refine qaP hcl px wx h (fun h1 => qaL hT hG hm hcl x _ _ _ _ s px wx h1 ?_) M φ a w hs hi
  intro e s1 h2 M1 φ1 a1 w1 hs1 hi1
  cases e with
  | normal =>
   exact qaP hcl py wy h2 (fun h3 => qaL hT hG hm hcl y _ _ _ _ s1 py wy h3 hK) M1 φ1 a1 w1 hs1 hi1
  | exit id => exact hK (.exit id) s1 h2 M1 φ1 a1 w1 hs1 hi1
  | ret => exact hK .ret s1 h2 M1 φ1 a1 w1 hs1 hi1
 | .cond c x y, ds, p, Q, K, s, hp, hw, h, hK => fun M φ a w hs hi => by
  simp only [evN] at h
  split at h
  ·rename_i d
   obtain ⟨b, s1, h1, hO, hn, hst⟩ := qfV (C := C) h
   obtain ⟨k1, k2⟩ := hst M φ a w hs
   have hi1 : Inv E s1 M φ w := ⟨by rw [hO]; exact hi.stp, hi.lent⟩
   have wx : qm P c0 (ds ++ [false]) Q0 = some (x, Q) := by rw [qag hw]; unfold qm; cases x <;> rfl
   have wy : qm P c0 (ds ++ [true]) Q0 = some (y, Q) := by rw [qag hw]; unfold qm; cases y <;> rfl
   have px : 2 * p = qD (ds ++ [false]) 1 := by rw [qau, ← hp]; rfl
   have py : 2 * p + 1 = qD (ds ++ [true]) 1 := by rw [qau, ← hp]; rfl
   refine wp_cond (t := b) k2 ?_
   cases b with
   | true => exact qaP hcl px wx h1 (fun h2 => qaL hT hG hm hcl x _ _ _ _ s1 px wx h2 hK) M φ a w k1 hi1
   | false => exact qaP hcl py wy h1 (fun h2 => qaL hT hG hm hcl y _ _ _ _ s1 py wy h2 hK) M φ a w k1 hi1
  ·have wx : qm P c0 (ds ++ [false]) Q0 = some (x, Q) := by rw [qag hw]; unfold qm; cases x <;> rfl
   have px : 2 * p = qD (ds ++ [false]) 1 := by rw [qau, ← hp]; rfl
   exact wp_cond (t := true) rfl (qaP hcl px wx h (fun h2 => qaL hT hG hm hcl x _ _ _ _ s px wx h2 hK) M φ a w hs hi)
  ·have wy : qm P c0 (ds ++ [true]) Q0 = some (y, Q) := by rw [qag hw]; unfold qm; cases y <;> rfl
   have py : 2 * p + 1 = qD (ds ++ [true]) 1 := by rw [qau, ← hp]; rfl
   exact wp_cond (t := false) rfl (qaP hcl py wy h (fun h2 => qaL hT hG hm hcl y _ _ _ _ s py wy h2 hK) M φ a w hs hi)
  ·cases h
 | .block id x, ds, p, Q, K, s, hp, hw, h, hK => fun M φ a w hs hi => by
  simp only [evN] at h
  refine wp_block ?_
  have wx : qm P c0 (ds ++ [false]) Q0 = some (x, Exit.inBlock id Q) := by rw [qag hw]; unfold qm; cases x <;> rfl
  have px : 2 * p = qD (ds ++ [false]) 1 := by rw [qau, ← hp]; rfl
  refine qaP hcl px wx h (fun h1 => qaL hT hG hm hcl x _ _ _ _ s px wx h1 ?_) M φ a w hs hi
  intro e s1 h2 M1 φ1 a1 w1 hs1 hi1
  cases e with
  | normal => exact hK .normal s1 h2 M1 φ1 a1 w1 hs1 hi1
  | exit id' =>
   simp only [ex, Exit.inBlock]
   rcases qat (show bc (Nat.beq id' id) (K .normal s1) (K (.exit id') s1) = some r from h2) with ⟨hb, h3⟩ | ⟨hb, h3⟩
   ·rw [if_pos (qu hb)]; exact hK .normal s1 h3 M1 φ1 a1 w1 hs1 hi1
   ·rw [if_neg (fun e => by subst e; have := Nat.beq_refl id'; rw [hb] at this; cases this)]; exact hK (.exit id') s1 h3 M1 φ1 a1 w1 hs1 hi1
  | ret => exact hK .ret s1 h2 M1 φ1 a1 w1 hs1 hi1
 | .loop x, ds, p, Q, K, s, hp, hw, h, hK => by
  simp only [evN] at h
  exact qaP hcl hp hw h (fun h1 => by cases h1)
 | .scope x, ds, p, Q, K, s, hp, hw, h, hK => fun M φ a w hs hi => by
  simp only [evN] at h
  refine wp_scope_straight ?_
  have wx : qm P c0 (ds ++ [false]) Q0 = some (x, Exit.noGoto Q) := by rw [qag hw]; unfold qm; cases x <;> rfl
  have px : 2 * p = qD (ds ++ [false]) 1 := by rw [qau, ← hp]; rfl
  exact qaP hcl px wx h (fun h1 => qaL hT hG hm hcl x _ _ _ _ s px wx h1 hK.noGoto) M φ a w hs hi
 | .rangeFunc _ _ _ _, _, _, _, _, _, _, _, h, _ => by cases h
 | .goto _, _, _, _, _, _, _, _, h, _ => by cases h
 | .refuse _, _, _, _, _, _, _, _, h, _ => by cases h
end
def qaX (s : St) (t : Nat) (y : V) (nb : Option (Blk × Pl)) : St :=
 match nb with | none => { s with t := (t, y) :: s.t } | some (b, _) => { t := (t, y) :: s.t, O := (s.nx, b) :: s.O, nx := s.nx + 1 }
def qal (n : Nat) (y : V) (nb : Option (Blk × Pl)) (f : Nat → List V × List Blk × List V) : List V × List Blk × List V :=
 match nb with | none => (y :: (f n).1, (f n).2.1, (f n).2.2) | some (b, _) => (y :: (f (n + 1)).1, b :: (f (n + 1)).2.1, (f (n + 1)).2.2)
def qcF (φ : Plc) (B1 : Nat → Blk) (pn : List Nat) (p' : Pl) (it : Bool) : Prop :=
 (pn = [] ∧ p'.c = 0) ∨ ∃ id p, pn = [id] ∧ φ id = some p ∧ qs (B1 id) = true ∧ p'.b = p.b ∧ p'.s = p.s ∧ p'.c = p.c ∧ qw (B1 id) = it
theorem qhP {n : Nat} {ks : List Kd} {y : List V} {js : List Kx} {l : List V} {p : Pl} (hlen : y.length = ks.length) :
  qg n (.bx ks :: js) (y ++ l) = qal n (.ptr n 0) (some (.cells y, p)) (fun m => qg m js l) := by
 have e : qg n (.bx ks :: js) (y ++ l) = (.ptr n 0 :: (qg (n + 1) js ((y ++ l).drop ks.length)).1, .cells ((y ++ l).take ks.length) :: (qg (n + 1) js ((y ++ l).drop ks.length)).2.1, (qg (n + 1) js ((y ++ l).drop ks.length)).2.2) := by
  generalize y ++ l = z
  cases z <;> rfl
 rw [e, ← hlen]
 simp [qal]
structure KAt (M1 : Mem) (φ : Plc) (B1 : Nat → Blk) (w : World) (k : Kx) (v : Value) (q : At) (nb : Option (Blk × Pl)) (y : Nat → V) : Prop where
 enc : ∀ t s l rest, qe ((t, k) :: rest) s (q.ls ++ l) = qe rest (qaX s t (y s.nx) nb) l
 out : qan k = true → ∀ n ks l, qg n (k :: ks) (q.ls ++ l) = qal n (y n) nb (fun m => qg m ks l)
 rv : ∀ φ' n, (∀ b p', nb = some (b, p') → φ' n = some p') → RV M1 φ' v (y n)
 n0 : nb = none → q.pn = []
 n1 : ∀ b p', nb = some (b, p') → (∀ φ0, RB M1 φ0 w p' b) ∧ qs b = true ∧ qcF φ B1 q.pn p' (qw b)
 lent : qy k = true → ∃ b p, nb = some (b, p) ∧ φ 0 = some p
 res : qan k = true → ∀ b p', nb = some (b, p') → qfA b = true ∨ ∃ l, b = .cells l
 lf : qd (qA k) q.ls = true
section
variable {M M1 : Mem} {φ : Plc} {B1 : Nat → Blk} {w : World} {s : St}
theorem qfH {kd : Kd} {c x : V} {u : Value} (h : qbE s kd c = some x) (hu : RV M φ u c) (hM : Ext M M1) (hr1 : Rel M1 φ B1 w) (hB : ∀ id ∈ qai c, B1 id = qn (qc s.O id)) :
  qF kd x = true ∧ ∀ φ', RL M1 φ' u x := by
 obtain ⟨y, hy, h1⟩ := qi h
 obtain ⟨hl, h2⟩ := qf h1
 cases h2
 exact ⟨hl, fun φ' => (qft hy hu hM hr1 hB φ').1⟩
theorem qcq {cs : Array Value} : ∀ {ks : List Kd} {l x : List V} {n : Nat}, qaw s ks l = some x → (∀ (j : Nat) y, l[j]? = some y → ∃ u, cs[n + j]? = some u ∧ RL M φ u y) → Ext M M1 → Rel M1 φ B1 w → (∀ id ∈ qQ l, B1 id = qn (qc s.O id)) →
  qd ks x = true ∧ x.length = l.length ∧ ∀ φ' (j : Nat) y, x[j]? = some y → ∃ u, cs[n + j]? = some u ∧ RL M1 φ' u y
 | [], [], x, n, h, _, _, _, _ => by cases h; exact ⟨rfl, rfl, fun φ' j y hy => by simp at hy⟩
 | k :: ks, v :: vs, x, n, h, hc, hM, hr1, hB => by
  obtain ⟨y, hy, h1⟩ := qi (show (qbE s k v).ob (fun x => (qaw s ks vs).ob fun l => some (x :: l)) = some x from h)
  obtain ⟨l, hl, h2⟩ := qi h1
  cases h2
  obtain ⟨u, hu, hru⟩ := hc 0 v rfl
  obtain ⟨k1, k2⟩ := qfH hy hru.rv hM hr1 (fun id hid => hB id (by simp [qQ, hid]))
  obtain ⟨i1, i2, i3⟩ := qcq (n := n + 1) hl (fun j z hz => by have := hc (j + 1) z (by simpa using hz); rwa [show n + (j + 1) = n + 1 + j by omega] at this) hM hr1 (fun id hid => hB id (by simp [qQ, hid]))
  refine ⟨by simp only [qd, Bool.and_eq_true]; exact ⟨k1, i1⟩, by simp [i2], fun φ' j z hz => ?_⟩
  cases j with
  | zero => simp at hz; subst hz; exact ⟨u, hu, k2 φ'⟩
  | succ j =>
   have := i3 φ' j z (by simpa using hz)
   rwa [show n + 1 + j = n + (j + 1) by omega] at this
 | [], _ :: _, _, _, h, _, _, _, _ => by cases h
 | _ :: _, [], _, _, h, _, _, _, _ => by cases h
theorem qef {ks : List Kd} {l x : List V} {p : Pl} (h : qaw s ks l = some x) (hb : RB M φ w p (.cells l)) (hM : Ext M M1) (hr1 : Rel M1 φ B1 w) (hB : ∀ id ∈ qQ l, B1 id = qn (qc s.O id)) :
  qd ks x = true ∧ ∀ φ0, RB M1 φ0 w p (.cells x) := by
 obtain ⟨b1, b2, b3⟩ := hb
 let cs : Array Value := ((List.range l.length).map fun j => (w.cell? ⟨p.b, p.s + j, none⟩).getD undef).toArray
 have hcs : ∀ (j : Nat) u, j < l.length → w.cell? ⟨p.b, p.s + j, none⟩ = some u → cs[0 + j]? = some u := fun j u hj hu => by simp [cs, hj, hu]
 obtain ⟨i1, i2, i3⟩ := qcq (cs := cs) (n := 0) h (fun j y hy => by
  obtain ⟨u, hu, hr⟩ := b3 j y hy
  exact ⟨u, hcs j u (List.getElem?_eq_some_iff.1 hy).1 hu, hr⟩) hM hr1 hB
 refine ⟨i1, fun φ0 => ⟨b1, by rw [b2, i2], fun j y hy => ?_⟩⟩
 obtain ⟨u, hu, hr⟩ := i3 φ0 j y hy
 have hj : j < l.length := by have := (List.getElem?_eq_some_iff.1 hy).1; omega
 obtain ⟨u', hu', _⟩ := b3 j _ (List.getElem?_eq_getElem hj)
 rw [hcs j u' hj hu'] at hu
 cases hu
 exact ⟨u, hu', hr⟩
theorem qgU {p q : List Kd} {k k' : IntKind} {t : Nat} {s0 : St} {rest : List (Nat × Kx)} {a b l : List V} {x : List Int} (ha : a.length = p.length) (hb : b.length = q.length) :
  qe ((t, .ao p k q) :: rest) s0 ((a ++ .ints k' x :: b) ++ l) = qe rest { t := (t, .agg (a ++ .own s0.nx :: b)) :: s0.t, O := (s0.nx, .ints k x true) :: s0.O, nx := s0.nx + 1 } l := by
 have e1 : ((a ++ .ints k' x :: b) ++ l).drop p.length = .ints k' x :: (b ++ l) := by rw [← ha]; simp
 have e2 : ((a ++ .ints k' x :: b) ++ l).take p.length = a := by rw [← ha]; simp
 have e3 : (b ++ l).take q.length = b := by rw [← hb]; simp
 have e4 : (b ++ l).drop q.length = l := by rw [← hb]; simp
 have e : ∀ z, qe ((t, .ao p k q) :: rest) s0 z = (match z.drop p.length with
  | .ints _ x :: m => qe rest { t := (t, .agg (z.take p.length ++ .own s0.nx :: m.take q.length)) :: s0.t, O := (s0.nx, .ints k x true) :: s0.O, nx := s0.nx + 1 } (m.drop q.length)
  | _ => s0) := by
  intro z
  cases z <;> rfl
 rw [e, e1]
 simp only
 rw [e2, e3, e4]
theorem qgV {p q : List Kd} {k k' : IntKind} {t : Nat} {s0 : St} {rest : List (Nat × Kx)} {a b l : List V} {x : List Int} (ha : a.length = p.length) (hb : b.length = q.length) :
  qe ((t, .bxo p k q) :: rest) s0 ((a ++ .ints k' x :: b) ++ l) = qe rest { t := (t, .ptr (s0.nx + 1) 0) :: s0.t, O := (s0.nx + 1, .cells (a ++ .own s0.nx :: b)) :: (s0.nx, .ints k x true) :: s0.O, nx := s0.nx + 2 } l := by
 have e1 : ((a ++ .ints k' x :: b) ++ l).drop p.length = .ints k' x :: (b ++ l) := by rw [← ha]; simp
 have e2 : ((a ++ .ints k' x :: b) ++ l).take p.length = a := by rw [← ha]; simp
 have e3 : (b ++ l).take q.length = b := by rw [← hb]; simp
 have e4 : (b ++ l).drop q.length = l := by rw [← hb]; simp
 have e : ∀ z, qe ((t, .bxo p k q) :: rest) s0 z = (match z.drop p.length with
  | .ints _ x :: m => qe rest { t := (t, .ptr (s0.nx + 1) 0) :: s0.t, O := (s0.nx + 1, .cells (z.take p.length ++ .own s0.nx :: m.take q.length)) :: (s0.nx, .ints k x true) :: s0.O, nx := s0.nx + 2 } (m.drop q.length)
  | _ => s0) := by
  intro z
  cases z <;> rfl
 rw [e, e1]
 simp only
 rw [e2, e3, e4]
theorem qeV {p q : List Kd} {k : IntKind} {a b : List V} {x : List Int} (ha : qd p a = true) (hb : qd q b = true) : qd (p ++ .is k :: q) (a ++ .ints k x :: b) = true := by
 induction p generalizing a with
 | nil =>
  cases a with
  | nil => simp only [List.nil_append, qd, Bool.and_eq_true]; exact ⟨qbV k, hb⟩
  | cons _ _ => cases ha
 | cons c p ih =>
  cases a with
  | nil => cases ha
  | cons v a =>
   simp only [qd, Bool.and_eq_true] at ha
   simp only [List.cons_append, qd, Bool.and_eq_true]
   exact ⟨ha.1, ih ha.2⟩
theorem qfR {p q : List Kd} {k : IntKind} {l : List V} {qa : At} {cs : Array Value} (h : qdg s p k q l = some qa) (hM : Ext M M1) (hr : Rel M φ (qc s.O) w) (hr1 : Rel M1 φ B1 w)
  (hc : ∀ (j : Nat) y, l[j]? = some y → ∃ u, cs[j]? = some u ∧ RL M φ u y) (hns : ∀ id ∈ qa.ns, B1 id = qn (qc s.O id)) (hpn : ∀ id ∈ qa.pn, B1 id = qc s.O id) :
  ∃ (a b : List V) (x : List Int) (pl : Pl), qa.ls = a ++ .ints k x :: b ∧ qd p a = true ∧ qd q b = true ∧ (a ++ .ints k x :: b).length = l.length ∧ (∀ φ0, RB M1 φ0 w pl (.ints k x true)) ∧ qcF φ B1 qa.pn pl false ∧
   ∀ φ' n, φ' n = some pl → ∀ (j : Nat) y, (a ++ .own n :: b)[j]? = some y → ∃ u, cs[j]? = some u ∧ RL M1 φ' u y := by
 have both : ∀ {v : V} {r a b : List V} {xs : List Int} {pl : Pl}, l.drop p.length = v :: r → qaw s p (l.take p.length) = some a → qaw s q r = some b → (∀ id ∈ qQ (l.take p.length) ++ qQ r, B1 id = qn (qc s.O id)) →
   (∀ φ' n, φ' n = some pl → ∀ u, cs[p.length]? = some u → RL M φ u v → RL M1 φ' u (.own n)) →
   qd p a = true ∧ qd q b = true ∧ (a ++ .ints k xs :: b).length = l.length ∧ ∀ φ' n, φ' n = some pl → ∀ (j : Nat) y, (a ++ .own n :: b)[j]? = some y → ∃ u, cs[j]? = some u ∧ RL M1 φ' u y := by
  intro v r a b xs pl hd ha hb hn hv
  have hl : l = l.take p.length ++ v :: r := by rw [← hd, List.take_append_drop]
  have hpl : p.length < l.length := by
   have := congrArg List.length hd
   simp only [List.length_drop, List.length_cons] at this
   omega
  have htl : (l.take p.length).length = p.length := by rw [List.length_take]; omega
  have gl : ∀ j, l[p.length + 1 + j]? = r[j]? := fun j => by
   rw [hl, List.getElem?_append_right (by omega), htl, show p.length + 1 + j - p.length = j + 1 by omega]
   simp
  obtain ⟨i1, i2, i3⟩ := qcq (cs := cs) (n := 0) ha (fun j z hz => by
   rw [Nat.zero_add]
   refine hc j z ?_
   rw [List.getElem?_take] at hz
   split at hz
   ·exact hz
   ·cases hz) hM hr1 (fun id hid => hn id (by simp [hid]))
  obtain ⟨k1, k2, k3⟩ := qcq (cs := cs) (n := p.length + 1) hb (fun j z hz => hc _ z (by rw [gl]; exact hz)) hM hr1 (fun id hid => hn id (by simp [hid]))
  have hal := (qab i1).1
  refine ⟨i1, k1, ?_, fun φ' n hn j y hy => ?_⟩
  ·have := congrArg List.length hl
   simp only [List.length_append, List.length_cons] at this ⊢
   rw [this, htl, hal, k2]
  ·by_cases h1 : j < a.length
   ·rw [List.getElem?_append_left h1] at hy
    have := i3 φ' j y hy
    rwa [Nat.zero_add] at this
   ·rw [List.getElem?_append_right (by omega)] at hy
    cases hj : j - a.length with
    | zero =>
     rw [hj] at hy
     simp at hy; subst hy
     have ej : j = p.length := by omega
     obtain ⟨u, hu, hru⟩ := hc p.length v (by rw [hl, List.getElem?_append_right (by omega), htl, Nat.sub_self]; rfl)
     exact ⟨u, by rw [ej]; exact hu, hv φ' n hn u hu hru⟩
    | succ m =>
     rw [hj] at hy
     have := k3 φ' m y (by simpa using hy)
     rwa [show p.length + 1 + m = j by omega] at this
 unfold qdg at h
 split at h
 ·rename_i id r hd
  split at h
  ·rename_i k' x hB
   obtain ⟨hk, h1⟩ := qf h
   obtain rfl := qE hk
   obtain ⟨a, ha, h2⟩ := qi h1
   obtain ⟨b, hb, h3⟩ := qi h2
   cases h3
   have hpl : p.length < l.length := by
    have := congrArg List.length hd
    simp only [List.length_drop, List.length_cons] at this
    omega
   obtain ⟨u, hu, pl, hp, hv⟩ := hc p.length (.own id) (by have := List.getElem?_drop (xs := l) (i := p.length) (j := 0); rw [hd] at this; simpa using this.symm)
   have hbk := hr.blk id pl hp
   rw [hB] at hbk
   obtain ⟨j1, j2, j3, j4⟩ := both (xs := x) (pl := pl) hd ha hb hns (fun φ' n hn u' hu' hru => by
    rw [hu] at hu'; cases hu'
    exact ⟨pl, hn, hv⟩)
   exact ⟨a, b, x, pl, rfl, j1, j2, j3, fun φ0 => hbk, .inr ⟨id, pl, rfl, hp, by rw [hpn id (by simp), hB]; rfl, rfl, rfl, rfl, by simp only [hpn id (by simp), hB, qw]⟩, j4⟩
  ·cases h
 ·rename_i kz r hd
  obtain ⟨a, ha, h2⟩ := qi h
  obtain ⟨b, hb, h3⟩ := qi h2
  cases h3
  obtain ⟨j1, j2, j3, j4⟩ := both (xs := []) (pl := ⟨0, 0, 0, 0, 0, true⟩) hd ha hb hns (fun φ' n hn u' hu' hru => ⟨_, hn, hru⟩)
  exact ⟨a, b, [], _, rfl, j1, j2, j3, fun φ0 => ⟨rfl, Nat.le_refl _, fun _ => ⟨rfl, rfl⟩, fun h => (by cases h), fun _ => rfl, Nat.le_refl _, fun j x hx => (by cases hx)⟩, .inl ⟨rfl, rfl⟩, j4⟩
 ·cases h
theorem qfG {T : Nat → V} {k : Kx} {x : V} {v : Value} {q : At} (h : qah s T k x = some q) (hal : ∀ u, k ≠ .al u) (hbo : ∀ p j q, k ≠ .bxo p j q) (hv : RV M φ v x) (hM : Ext M M1) (hr : Rel M φ (qc s.O) w) (hr1 : Rel M1 φ B1 w)
  (hns : ∀ id ∈ q.ns, B1 id = qn (qc s.O id)) (hpn : ∀ id ∈ q.pn, B1 id = qc s.O id) : ∃ nb y, KAt M1 φ B1 w k v q nb y := by
 cases k with
 | lf kd =>
  obtain ⟨y, hy, h1⟩ := qi (show (qbE s kd x).ob (fun x' => some (⟨[x'], [], qai x⟩ : At)) = some q from h)
  cases h1
  obtain ⟨k1, k2⟩ := qfH hy hv hM hr1 hns
  exact ⟨none, fun _ => y, fun t s l rest => rfl, fun _ n ks l => rfl, fun φ' n _ => (k2 φ').rv, fun _ => rfl, fun b p' h => (by cases h), fun h => (by cases h), fun _ b p' h => (by cases h), by simp only [qA, qd, Bool.and_eq_true]; exact ⟨k1, trivial⟩⟩
 | ag ks =>
  simp only [qah] at h
  split at h
  ·rename_i l
   obtain ⟨y, hy, h1⟩ := qi h
   cases h1
   obtain ⟨ar, e, hs, hg⟩ := (show RA M φ v (.agg l) from hv)
   obtain ⟨i1, i2, i3⟩ := qcq (cs := ar) (n := 0) hy (fun j z hz => by rw [Nat.zero_add]; exact hg j z hz) hM hr1 hns
   have hlen := (qab i1).1
   refine ⟨none, fun _ => .agg y, fun t s l rest => by simp [qe, ← hlen, qaX], fun _ n js l => ?_, fun φ' n _ => ⟨ar, e, by rw [i2]; exact hs, fun j z hz => ?_⟩, fun _ => rfl, fun b p' h => (by cases h), fun h => (by cases h), fun _ b p' h => (by cases h), i1⟩
   ·have e : ∀ m, qg m (.ag ks :: js) (y ++ l) = (.agg ((y ++ l).take ks.length) :: (qg m js ((y ++ l).drop ks.length)).1, (qg m js ((y ++ l).drop ks.length)).2.1, (qg m js ((y ++ l).drop ks.length)).2.2) := fun m => by
     generalize y ++ l = z
     cases z <;> rfl
    show qg n (.ag ks :: js) (y ++ l) = _
    rw [e, ← hlen]
    simp [qal]
   ·have := i3 φ' j z hz
    rwa [Nat.zero_add] at this
  ·cases h
 | ip ks =>
  simp only [qah] at h
  split at h
  ·rename_i l
   obtain ⟨hl, h1⟩ := qf h
   cases h1
   have hlen := (qab hl).1
   obtain ⟨b, o, e, f⟩ := (show RL M φ v (.iptr l) from hv)
   exact ⟨none, fun _ => .iptr l, fun t s l' rest => by simp [qe, ← hlen, qaX], fun h => (by cases h), fun φ' n _ => ⟨b, o, e, fun j x hx => let ⟨u, a, c⟩ := f j x hx; ⟨u, hM _ _ _ a, c.mono hM⟩⟩,
    fun _ => rfl, fun b p' h => (by cases h), fun h => (by cases h), fun _ b p' h => (by cases h), hl⟩
  ·cases h
 | cl f kss =>
  simp only [qah] at h
  split at h
  ·rename_i f' l
   obtain ⟨hf, h0⟩ := qf h
   have hf := qu hf
   subst hf
   obtain ⟨y, hy, h1⟩ := qi h0
   cases h1
   obtain ⟨u1, u2⟩ := qeJ hy
   have hlen := (qab u1).1
   obtain ⟨cs, e, s1, g⟩ := (show RL M φ v (.clo f l) from hv)
   exact ⟨none, fun _ => .clo f l, fun t s l' rest => by simp [qe, ← hlen, qaX, u2], fun h => (by cases h), fun φ' n _ => ⟨cs, e, s1, fun j x hx => let ⟨u, a, c⟩ := g j x hx; ⟨u, a, c.mono hM⟩⟩,
    fun _ => rfl, fun b p' h => (by cases h), fun h => (by cases h), fun _ b p' h => (by cases h), u1⟩
  ·cases h
 | bx ks =>
  simp only [qah] at h
  split at h
  ·rename_i id
   split at h
   ·rename_i l hB
    obtain ⟨y, hy, h1⟩ := qi h
    cases h1
    obtain ⟨p, hp, hv⟩ := hv
    have hb := hr.blk id p hp
    rw [hB] at hb
    obtain ⟨i1, i2⟩ := qef hy hb hM hr1 hns
    have hlen := (qab i1).1
    exact ⟨some (.cells y, p), fun n => .ptr n 0, fun t s l rest => by simp [qe, ← hlen, qaX], fun _ n js l => qhP hlen, fun φ' n hn => ⟨p, hn _ _ rfl, hv⟩, fun h => (by cases h),
     fun b p' h => (by cases h; exact ⟨i2, rfl, .inr ⟨id, p, rfl, hp, by rw [hpn id (by simp), hB]; rfl, rfl, rfl, rfl, by simp only [hpn id (by simp), hB, qw]⟩⟩), fun h => (by cases h), fun _ b p' h => (by cases h; exact .inr ⟨_, rfl⟩), i1⟩
   ·cases h
  ·cases h
 | bb ks =>
  simp only [qah] at h
  split at h
  ·split at h
   ·rename_i l hB
    obtain ⟨y, hy, h1⟩ := qi h
    cases h1
    obtain ⟨p, hp, hv⟩ := hv
    have hb := hr.blk 0 p hp
    rw [hB] at hb
    obtain ⟨i1, i2⟩ := qef hy hb hM hr1 hns
    have hlen := (qab i1).1
    exact ⟨some (.cells y, p), fun n => .ptr n 0, fun t s l rest => by simp [qe, ← hlen, qaX], fun h => (by cases h), fun φ' n hn => ⟨p, hn _ _ rfl, hv⟩, fun h => (by cases h),
     fun b p' h => (by cases h; exact ⟨i2, rfl, .inr ⟨0, p, rfl, hp, by rw [hpn 0 (by simp), hB]; rfl, rfl, rfl, rfl, by simp only [hpn 0 (by simp), hB, qw]⟩⟩), fun _ => ⟨_, p, rfl, hp⟩, fun h => (by cases h), i1⟩
   ·cases h
  ·cases h
 | al u => exact absurd rfl (hal u)
 | bxo p j q => exact absurd rfl (hbo p j q)
 | ao p j qq =>
  simp only [qah] at h
  split at h
  ·rename_i l
   obtain ⟨ar, e, hs, hg⟩ := (show RA M φ v (.agg l) from hv)
   obtain ⟨a, b, x, pl, e1, l1, l2, l3, rb, fr, g⟩ := qfR (cs := ar) h hM hr hr1 hg hns hpn
   have ha := (qab l1).1
   have hb := (qab l2).1
   refine ⟨some (.ints j x true, pl), fun n => .agg (a ++ .own n :: b), fun t s l rest => ?_, fun _ n ks l => ?_, fun φ' n hn => ⟨ar, e, ?_, g φ' n (hn _ _ rfl)⟩, fun h => (by cases h), fun b p' h => (by cases h; exact ⟨rb, rfl, fr⟩), fun h => (by cases h), fun _ b p' h => (by cases h; exact .inl rfl), ?_⟩
   ·rw [e1]; exact qgU ha hb
   ·rw [e1]
    have e1 : ((a ++ .ints j x :: b) ++ l).drop p.length = .ints j x :: (b ++ l) := by rw [← ha]; simp
    have e2 : ((a ++ .ints j x :: b) ++ l).take p.length = a := by rw [← ha]; simp
    have e3 : (b ++ l).take qq.length = b := by rw [← hb]; simp
    have e4 : (b ++ l).drop qq.length = l := by rw [← hb]; simp
    rw [qet e1, e2, e3, e4]
    rfl
   ·rw [hs, ← l3]; simp
   ·rw [e1]; exact qeV l1 l2
  ·cases h
 | ar k =>
  simp only [qah] at h
  split at h
  ·rename_i id
   split at h
   ·rename_i k' l hB
    obtain ⟨hk, h1⟩ := qf h
    obtain rfl := qE hk
    cases h1
    obtain ⟨p, hp, hv⟩ := hv
    have hb := hr.blk id p hp
    rw [hB] at hb
    exact ⟨some (.ints k l false, p), fun n => .ptr n 0, fun t s l rest => rfl, fun h => (by cases h), fun φ' n hn => ⟨p, hn _ _ rfl, hv⟩, fun h => (by cases h),
     fun b p' h => (by cases h; exact ⟨fun φ0 => hb, rfl, .inr ⟨id, p, rfl, hp, by rw [hpn id (by simp), hB]; rfl, rfl, rfl, rfl, by simp only [hpn id (by simp), hB, qw]⟩⟩), fun h => (by cases h), fun h => (by cases h), by simp [qA, qd, qF, qbV]⟩
   ·cases h
  ·cases h
 | it =>
  simp only [qah] at h
  split at h
  ·rename_i id
   split at h
   ·rename_i z pos hB
    cases h
    obtain ⟨p, hp, hv⟩ := hv
    have hb := hr.blk id p hp
    rw [hB] at hb
    exact ⟨some (.iter z pos, p), fun n => .ptr n 0, fun t s l rest => rfl, fun h => (by cases h), fun φ' n hn => ⟨p, hn _ _ rfl, hv⟩, fun h => (by cases h),
     fun b p' h => (by cases h; exact ⟨fun φ0 => hb, rfl, .inr ⟨id, p, rfl, hp, by rw [hpn id (by simp), hB]; rfl, rfl, rfl, rfl, by simp only [hpn id (by simp), hB, qw]⟩⟩), fun h => (by cases h), fun h => (by cases h), rfl⟩
   ·cases h
  ·cases h
 | ow k =>
  simp only [qah] at h
  split at h
  ·rename_i id
   split at h
   ·rename_i k' l hB
    obtain ⟨hk, h1⟩ := qf h
    obtain rfl := qE hk
    cases h1
    obtain ⟨p, hp, rfl⟩ := hv
    have hb := hr.blk id p hp
    rw [hB] at hb
    exact ⟨some (.ints k l true, p), .own, fun t s l rest => rfl, fun _ n ks l => rfl, fun φ' n hn => ⟨p, hn _ _ rfl, rfl⟩, fun h => (by cases h),
     fun b p' h => (by cases h; exact ⟨fun φ0 => hb, rfl, .inr ⟨id, p, rfl, hp, by rw [hpn id (by simp), hB]; rfl, rfl, rfl, rfl, by simp only [hpn id (by simp), hB, qw]⟩⟩), fun h => (by cases h), fun _ b p' h => (by cases h; exact .inl rfl), by simp [qA, qd, qF, qbV]⟩
   ·cases h
  ·rename_i id e
   split at h
   ·rename_i k' l hB
    obtain ⟨hk, h1⟩ := qf h
    obtain rfl := qE hk
    cases h1
    obtain ⟨p, hp, a, h', ha, he, hae, hle, hv⟩ := hv
    have hb := hr.blk id p hp
    rw [hB] at hb
    obtain ⟨b1, b2, b3, b4, b5, b6, b7⟩ := hb
    simp only [Option.elim] at ha he
    subst ha
    subst he
    refine ⟨some (.ints k (l.take e.toNat) true, { p with len := e.toNat }), .own, fun t s l rest => rfl, fun _ n ks l => rfl, fun φ' n hn => ⟨_, hn _ _ rfl, ?_⟩, fun h => (by cases h),
     fun b p' h => (by
      cases h
      refine ⟨fun φ0 => ⟨by simp; omega, by simp; omega, b3, b4, fun h => (by cases h), by simp; omega, fun j z hz => ?_⟩, rfl, .inr ⟨id, p, rfl, hp, by rw [hpn id (by simp), hB]; rfl, rfl, rfl, rfl, by simp only [hpn id (by simp), hB, qw]⟩⟩
      rw [List.getElem?_take] at hz
      split at hz
      ·exact b7 j z hz
      ·cases hz), fun h => (by cases h), fun _ b p' h => (by cases h; exact .inl rfl), by simp [qA, qd, qF, qbV]⟩
    unfold Pl.val
    rcases hv with ⟨hn, rfl⟩ | ⟨hn, s', c', rfl, _, hc, _, hs⟩
    ·simp [hn]
    ·simp only [hn, Bool.false_eq_true, if_false, Nat.sub_zero]
     rw [hs rfl, hc rfl]
   ·cases h
  ·cases h
   have hv : v = .slice none 0 0 := hv
   exact ⟨some (.ints k [] true, ⟨0, 0, 0, 0, 0, true⟩), .own, fun t s l rest => rfl, fun _ n ks l => rfl, fun φ' n hn => ⟨_, hn _ _ rfl, hv⟩, fun h => (by cases h),
    fun b p' h => (by
     cases h
     exact ⟨fun φ0 => ⟨rfl, Nat.le_refl _, fun _ => ⟨rfl, rfl⟩, fun h => (by cases h), fun _ => rfl, Nat.le_refl _, fun j x hx => (by cases hx)⟩, rfl, .inl ⟨rfl, rfl⟩⟩), fun h => (by cases h), fun _ b p' h => (by cases h; exact .inl rfl), by simp [qA, qd, qF, qbV]⟩
  ·cases h
 | bo k =>
  simp only [qah] at h
  split at h
  ·split at h
   ·rename_i k' l hB
    obtain ⟨hk, h1⟩ := qf h
    obtain rfl := qE hk
    cases h1
    obtain ⟨p, hp, rfl⟩ := hv
    have hb := hr.blk 0 p hp
    rw [hB] at hb
    exact ⟨some (.ints k l false, p), .own, fun t s l rest => rfl, fun h => (by cases h), fun φ' n hn => ⟨p, hn _ _ rfl, rfl⟩, fun h => (by cases h),
     fun b p' h => (by cases h; exact ⟨fun φ0 => hb, rfl, .inr ⟨0, p, rfl, hp, by rw [hpn 0 (by simp), hB]; rfl, rfl, rfl, rfl, by simp only [hpn 0 (by simp), hB, qw]⟩⟩), fun _ => ⟨_, p, rfl, hp⟩, fun h => (by cases h), by simp [qA, qd, qF, qbV]⟩
   ·cases h
  ·cases h
end
structure qO (M1 : Mem) (φ : Plc) (B1 : Nat → Blk) (w : World) (used : List Nat) (nx : Nat) (B' : Nat → Blk) (φ' : Plc) : Prop where
 holds : qdG M1 w
 blk : ∀ id p, φ' id = some p → RB M1 φ' w p (B' id)
 fresh : ∀ id, nx ≤ id → φ' id = none
 org : ∀ id p', φ' id = some p' → p'.c = 0 ∨ ∃ id0 ∈ used, ∃ p, φ id0 = some p ∧ qs (B1 id0) = true ∧ p'.b = p.b ∧ p'.s = p.s ∧ p'.c = p.c ∧ qw (B1 id0) = qw (B' id)
 dis : ∀ id id' p p', id ≠ id' → φ' id = some p → φ' id' = some p' → ∀ j j', j < p.c → j' < p'.c → p.b = p'.b → p.s + j ≠ p'.s + j'
section
variable {M1 : Mem} {φ : Plc} {B1 : Nat → Blk} {w : World}
theorem qO.own {used : List Nat} {nx : Nat} {B' : Nat → Blk} {φ' : Plc} (h : qO M1 φ B1 w used nx B' φ') (hr1 : Rel M1 φ B1 w) : ∀ id p, φ' id = some p → qb6 (qw (B' id)) M1 w p := fun id p hp j hj => by
 rcases h.org id p hp with hc | ⟨id0, _, q, hq, ha, e1, e2, e3, e4⟩
 ·omega
 ·have := hr1.own id0 q hq ha j (by omega)
  rw [e1, e2, ← e4]; exact this
theorem qO.rel {used : List Nat} {nx : Nat} {B' : Nat → Blk} {φ' : Plc} (h : qO M1 φ B1 w used nx B' φ') (hr1 : Rel M1 φ B1 w) : Rel M1 φ' B' w :=
 ⟨h.holds, h.blk, fun id p hp _ => h.own hr1 id p hp, fun id id' p p' hne hp hp' _ _ => h.dis id id' p p' hne hp hp'⟩
theorem qO.owned {used : List Nat} {nx : Nat} {B' : Nat → Blk} {φ' : Plc} (h : qO M1 φ B1 w used nx B' φ') {b o : Nat} (ho : qK φ' B' b o) : qK φ B1 b o := by
 obtain ⟨id, p, j, hp, _, hj, rfl, rfl⟩ := ho
 rcases h.org id p hp with hc | ⟨id0, _, q, hq, ha, e1, e2, e3, _⟩
 ·omega
 ·exact ⟨id0, q, j, hq, ha, by omega, e1, by rw [e2]⟩
theorem qO.empty (hr1 : Rel M1 φ B1 w) : qO M1 φ B1 w [] 0 (qc []) (fun _ => none) :=
 ⟨hr1.holds, fun id p h => (by cases h), fun _ _ => rfl, fun id p h => (by cases h), fun id id' p p' _ h => (by cases h)⟩
theorem qda {n id : Nat} {b : Blk} {O : List (Nat × Blk)} : qc ((n, b) :: O) id = if id = n then b else qc O id := by
 have := qbZ [(n, b)] O id
 rw [qZ] at this
 exact this
theorem qO.add2 {used pn : List Nat} {nx : Nat} {O : List (Nat × Blk)} {φ' : Plc} {blk : Blk} {p' : Pl} (h : qO M1 φ B1 w used nx (qc O) φ') (hr1 : Rel M1 φ B1 w) (hb : RB M1 (qI φ' nx p') w p' blk) (hf : qcF φ B1 pn p' (qw blk)) (hpn : ∀ id ∈ pn, id ∉ used) :
  qO M1 φ B1 w (pn ++ used) (nx + 1) (qc ((nx, blk) :: O)) (qI φ' nx p') ∧ qr φ' (qI φ' nx p') := by
 have hn : φ' nx = none := h.fresh nx (Nat.le_refl _)
 have hext := qdq (p := p') hn
 refine ⟨⟨h.holds, ?_, ?_, ?_, ?_⟩, hext⟩
 ·intro id p hp
  rw [qda]
  rcases qar hp with ⟨rfl, rfl⟩ | ⟨hne, hp⟩
  ·rw [if_pos rfl]; exact hb
  ·rw [if_neg hne]; exact (h.blk id p hp).mono (Ext.refl M1) hext (fun _ _ _ _ h => h)
 ·intro id hid
  rw [qaD (by omega)]
  exact h.fresh id (by omega)
 ·intro id p hp
  rcases qar hp with ⟨rfl, rfl⟩ | ⟨hne, hp⟩
  ·rcases hf with ⟨_, hc⟩ | ⟨id0, q, rfl, hq, ha, e1, e2, e3, e4⟩
   ·exact .inl hc
   ·exact .inr ⟨id0, by simp, q, hq, ha, e1, e2, e3, by rw [qda, if_pos rfl]; exact e4⟩
  ·rcases h.org id p hp with hc | ⟨id0, hu, q, r⟩
   ·exact .inl hc
   ·exact .inr ⟨id0, by simp [hu], q, by rw [qda, if_neg hne]; exact r⟩
 ·have cross : ∀ id p, φ' id = some p → ∀ j j', j < p'.c → j' < p.c → p'.b = p.b → p'.s + j ≠ p.s + j' := by
   intro id p hp j j' hj hj' hbb
   rcases hf with ⟨_, hc⟩ | ⟨id0, q, rfl, hq, ha, e1, e2, e3, _⟩
   ·omega
   ·rcases h.org id p hp with hc | ⟨id1, hu, q1, hq1, ha1, f1, f2, f3, _⟩
    ·omega
    ·have hne : id0 ≠ id1 := fun e => hpn id0 (by simp) (e ▸ hu)
     have := hr1.dis id0 id1 q q1 hne hq hq1 ha ha1 j j' (by omega) (by omega) (by omega)
     omega
  intro id id' p q hne hp hq j j' hj hj' hbb
  rcases qar hp with ⟨e1, e2⟩ | ⟨h1, hp2⟩ <;> rcases qar hq with ⟨e3, e4⟩ | ⟨h2, hq2⟩
  ·exact absurd (e1.trans e3.symm) hne
  ·subst e2; exact cross id' q hq2 j j' hj hj' hbb
  ·subst e4
   have := cross id p hp2 j' j hj' hj hbb.symm
   exact fun e => this e.symm
  ·exact h.dis id id' p q hne hp2 hq2 j j' hj hj' hbb
theorem qO.add {used pn : List Nat} {nx : Nat} {O : List (Nat × Blk)} {φ' : Plc} {blk : Blk} {p' : Pl} (h : qO M1 φ B1 w used nx (qc O) φ') (hr1 : Rel M1 φ B1 w) (hb : ∀ φ0, RB M1 φ0 w p' blk) (hf : qcF φ B1 pn p' (qw blk)) (hpn : ∀ id ∈ pn, id ∉ used) :
  qO M1 φ B1 w (pn ++ used) (nx + 1) (qc ((nx, blk) :: O)) (qI φ' nx p') ∧ qr φ' (qI φ' nx p') := h.add2 hr1 (hb _) hf hpn
theorem qO.push {used : List Nat} {s' : St} {φ' : Plc} {t : Nat} {k : Kx} {v : Value} {q : At} {nb : Option (Blk × Pl)} {y : Nat → V} {a : Act} (h : qO M1 φ B1 w used s'.nx (qc s'.O) φ') (hr1 : Rel M1 φ B1 w) (ht : ∀ i, RV M1 φ' (a.tmps.getD i undef) (qj s'.t i))
  (hk : KAt M1 φ B1 w k v q nb y) (hv : a.tmps.getD t undef = v) (hpn : ∀ id ∈ q.pn, id ∉ used) :
  ∃ φ'', qO M1 φ B1 w (q.pn ++ used) (qaX s' t (y s'.nx) nb).nx (qc (qaX s' t (y s'.nx) nb).O) φ'' ∧ (∀ i, RV M1 φ'' (a.tmps.getD i undef) (qj (qaX s' t (y s'.nx) nb).t i)) ∧ qr φ' φ'' ∧
   (∀ b p', nb = some (b, p') → φ'' s'.nx = some p') := by
 cases nb with
 | none =>
  refine ⟨φ', by rw [hk.n0 rfl]; exact h, fun i => ?_, qr.refl φ', fun b p' h => (by cases h)⟩
  show RV M1 φ' _ (qj ((t, y s'.nx) :: s'.t) i)
  rw [q9]
  split
  ·rename_i e; subst e; rw [hv]; exact hk.rv φ' s'.nx (fun b p' h => (by cases h))
  ·exact ht i
 | some bp =>
  obtain ⟨b, p'⟩ := bp
  obtain ⟨k1, k2, k3⟩ := hk.n1 b p' rfl
  obtain ⟨n1, n2⟩ := h.add hr1 k1 k3 hpn
  refine ⟨_, n1, fun i => ?_, n2, fun b1 p1 h => (by cases h; exact qaa)⟩
  show RV M1 _ _ (qj ((t, y s'.nx) :: s'.t) i)
  rw [q9]
  split
  ·rename_i e; subst e; rw [hv]; exact hk.rv _ s'.nx (fun b1 p1 h => (by cases h; exact qaa))
  ·exact (ht i).mono (Ext.refl M1) n2
end
def qbp : List Kx → Bool
 | [] => false
 | .bo _ :: _ => true
 | .bb _ :: _ => true
 | .lf _ :: r => qbp r
 | .ag _ :: r => qbp r
 | .al _ :: r => qbp r
 | _ => false
theorem qfO : ∀ {l : List Nat}, qdf l = true → l.Nodup
 | [], _ => List.nodup_nil
 | x :: r, h => by
  simp only [qdf, Bool.and_eq_true, Bool.not_eq_true'] at h
  refine List.nodup_cons.2 ⟨fun hm => ?_, qfO h.2⟩
  have : r.any (Nat.beq x) = true := List.any_eq_true.2 ⟨x, hm, Nat.beq_refl x⟩
  rw [h.1] at this; cases this
theorem qer {pn ns : List Nat} (h : qct pn ns = true) : pn.Nodup ∧ ∀ id ∈ ns, id ∉ pn := by
 simp only [qct, Bool.and_eq_true] at h
 refine ⟨qfO h.1, fun id hid hm => ?_⟩
 have := List.all_eq_true.1 h.2 id hid
 simp only [Bool.not_eq_true'] at this
 have h2 : pn.any (Nat.beq id) = true := List.any_eq_true.2 ⟨id, hm, Nat.beq_refl id⟩
 rw [this] at h2; cases h2
section
variable {C : Cfg} {P : Program} {R : Type} {r : R}
theorem qcp {s : St} {M M1 : Mem} {φ : Plc} {B1 : Nat → Blk} {a : Act} {w : World} (hs : StR C s M φ a w) (hM : Ext M M1) (hr1 : Rel M1 φ B1 w) :
  ∀ (vs : List (Nat × Kx)) (q : At) (s' : St) (φ' : Plc) (used : List Nat), qc7 s vs = some q → (∀ id ∈ q.ns, B1 id = qn (qc s.O id)) → (∀ id ∈ q.pn, B1 id = qc s.O id) → q.pn.Nodup → (∀ id ∈ q.pn, id ∉ used) →
   qO M1 φ B1 w used s'.nx (qc s'.O) φ' → (∀ i, RV M1 φ' (a.tmps.getD i undef) (qj s'.t i)) →
   ∃ φ'', qO M1 φ B1 w (q.pn ++ used) (qe vs s' q.ls).nx (qc (qe vs s' q.ls).O) φ'' ∧ (∀ i, RV M1 φ'' (a.tmps.getD i undef) (qj (qe vs s' q.ls).t i)) ∧ qr φ' φ'' ∧
    (qbp (vs.map (·.2)) = true → s'.nx = 0 → ∃ p, φ'' 0 = some p ∧ φ 0 = some p) ∧ qd (qo (vs.map (·.2))) q.ls = true
 | [], q, s', φ', used, h, _, _, _, _, hn, ht => by
  cases h
  rw [qcj]
  exact ⟨φ', hn, ht, qr.refl φ', fun h => (by cases h), rfl⟩
 | (t, k) :: vs, q, s', φ', used, h, hns, hpn, hnd, hu, hn, ht => by
  obtain ⟨q1, hq1, h1⟩ := qi (show (qah s (qj s.t) k (qj s.t t)).ob (fun q => (qc7 s vs).ob fun q' => some (⟨q.ls ++ q'.ls, q.pn ++ q'.pn, q.ns ++ q'.ns⟩ : At)) = some q from h)
  obtain ⟨q2, hq2, h2⟩ := qi h1
  cases h2
  simp only at hns hpn hnd hu ⊢
  rw [List.nodup_append] at hnd
  obtain ⟨nd1, nd2, nd3⟩ := hnd
  by_cases hal : ∃ u, k = .al u
  ·obtain ⟨u, rfl⟩ := hal
   have hq : q1 = ⟨[], [], []⟩ ∧ a.tmps.getD t undef = a.tmps.getD u undef := by
    simp only [qah] at hq1
    split at hq1
    ·rename_i id id' e1 e2
     obtain ⟨hb, h3⟩ := qf hq1
     cases h3
     have := qu hb
     subst this
     obtain ⟨p, hp, hv⟩ := (show RL M φ (a.tmps.getD t undef) (.own id) by have := hs.tm t; rw [e1] at this; exact this)
     obtain ⟨p2, hp2, hv2⟩ := (show RL M φ (a.tmps.getD u undef) (.own id) by have := hs.tm u; rw [e2] at this; exact this)
     rw [hp] at hp2; cases hp2
     exact ⟨rfl, hv.trans hv2.symm⟩
    ·rename_i id id' e1 e2
     obtain ⟨hb, h3⟩ := qf hq1
     cases h3
     have := qu hb
     subst this
     obtain ⟨p, hp, hv⟩ := (show RL M φ (a.tmps.getD t undef) (.ptr id 0) by have := hs.tm t; rw [e1] at this; exact this)
     obtain ⟨p2, hp2, hv2⟩ := (show RL M φ (a.tmps.getD u undef) (.ptr id 0) by have := hs.tm u; rw [e2] at this; exact this)
     rw [hp] at hp2; cases hp2
     exact ⟨rfl, hv.trans hv2.symm⟩
    ·cases hq1
   obtain ⟨rfl, hvv⟩ := hq
   have he : qe ((t, .al u) :: vs) s' ([] ++ q2.ls) = qe vs { s' with t := (t, qj s'.t u) :: s'.t } q2.ls := by
    simp only [List.nil_append]
    rfl
   simp only at nd1 nd2 nd3 hns hpn hu ⊢
   rw [he]
   obtain ⟨φ'', m1, m2, m3, m4, m5⟩ := qcp hs hM hr1 vs q2 { s' with t := (t, qj s'.t u) :: s'.t } φ' used hq2 (fun id hid => hns id (by simp [hid])) (fun id hid => hpn id (by simp [hid])) nd2 (fun id hid => hu id (by simp [hid])) hn (fun i => by
    rw [q9]
    split
    ·rename_i e; subst e; rw [hvv]; exact ht u
    ·exact ht i)
   exact ⟨φ'', by simpa using m1, m2, m3, m4, by simpa [qo, qA] using m5⟩
  ·have lfapp : ∀ {ks js : List Kd} {l m : List V}, qd ks l = true → qd js m = true → qd (ks ++ js) (l ++ m) = true := by
    intro ks
    induction ks with
    | nil => intro js l m h1 h2; cases l with
     | nil => exact h2
     | cons _ _ => cases h1
    | cons k ks ih =>
     intro js l m h1 h2
     cases l with
     | nil => cases h1
     | cons v l =>
      simp only [qd, Bool.and_eq_true] at h1
      simp only [List.cons_append, qd, Bool.and_eq_true]
      exact ⟨h1.1, ih h1.2 h2⟩
   by_cases hbo : ∃ p j qq, k = .bxo p j qq
   ·obtain ⟨pk, j, qk, rfl⟩ := hbo
    simp only [qah] at hq1
    split at hq1
    case h_2 => cases hq1
    rename_i id hx
    split at hq1
    case h_2 => cases hq1
    rename_i l hB
    obtain ⟨a0, ha0, h3⟩ := qi hq1
    cases h3
    simp only at nd1 nd2 nd3 hns hpn hu ⊢
    obtain ⟨p, hp, hv⟩ := (show RL M φ (a.tmps.getD t undef) (.ptr id 0) by have := hs.tm t; rw [hx] at this; exact this)
    have hblk := hs.rel.blk id p hp
    rw [hB] at hblk
    obtain ⟨b1, b2, b3⟩ := hblk
    let cs : Array Value := ((List.range l.length).map fun j => (w.cell? ⟨p.b, p.s + j, none⟩).getD undef).toArray
    have hcs : ∀ (j : Nat) u, j < l.length → w.cell? ⟨p.b, p.s + j, none⟩ = some u → cs[j]? = some u := fun j u hj hu => by simp [cs, hj, hu]
    obtain ⟨la, lb, x, pl, e1, l1, l2, l3, rb, fr, g⟩ := qfR (cs := cs) ha0 hM hs.rel hr1 (fun j y hy => by
     obtain ⟨u, hu, hr⟩ := b3 j y hy
     exact ⟨u, hcs j u (List.getElem?_eq_some_iff.1 hy).1 hu, hr⟩) (fun id hid => hns id (by simp [hid])) (fun id hid => hpn id (by simp [hid]))
    have hla := (qab l1).1
    have hlb := (qab l2).1
    obtain ⟨n1, n2⟩ := hn.add hr1 rb fr (fun id hid => hu id (by simp [hid]))
    have hnx : qI φ' s'.nx pl s'.nx = some pl := qaa
    have hid0 : id ∉ a0.pn := fun hm => (List.nodup_cons.1 nd1).1 hm
    have hgt : qI (qI φ' s'.nx pl) (s'.nx + 1) p s'.nx = some pl := by rw [qaD (by omega)]; exact hnx
    obtain ⟨n3, n4⟩ := n1.add2 (pn := [id]) (p' := p) (blk := .cells (la ++ .own s'.nx :: lb)) hr1
     ⟨b1, by rw [b2, ← l3]; simp, fun j y hy => by
      obtain ⟨u, hu, hr⟩ := g _ s'.nx hgt j y hy
      have hj : j < l.length := by
       have h4 := (List.getElem?_eq_some_iff.1 hy).1
       have : (la ++ V.own s'.nx :: lb).length = (la ++ V.ints ‹_› x :: lb).length := by simp
       omega
      obtain ⟨u', hu', _⟩ := b3 j _ (List.getElem?_eq_getElem hj)
      rw [hcs j u' hj hu'] at hu
      cases hu
      exact ⟨u, hu', hr⟩⟩
     (.inr ⟨id, p, rfl, hp, by rw [hpn id (by simp), hB]; rfl, rfl, rfl, rfl, by simp only [hpn id (by simp), hB, qw]⟩)
     (fun id' hid' hm => by
      obtain rfl : id' = id := by simpa using hid'
      rcases List.mem_append.1 hm with h | h
      ·exact hid0 h
      ·exact hu id' (by simp) h)
    rw [e1, qgV hla hlb]
    obtain ⟨φ'', m1, m2, m3, m4, m5⟩ := qcp hs hM hr1 vs q2 { t := (t, .ptr (s'.nx + 1) 0) :: s'.t, O := (s'.nx + 1, .cells (la ++ .own s'.nx :: lb)) :: (s'.nx, .ints j x true) :: s'.O, nx := s'.nx + 2 } _ ([id] ++ (a0.pn ++ used)) hq2 (fun id hid => hns id (by simp [hid])) (fun id hid => hpn id (by simp [hid])) nd2 (fun id' hid' hm => by
     rcases List.mem_append.1 hm with h | h
     ·exact nd3 id' (by simp at h; simp [h]) id' hid' rfl
     ·rcases List.mem_append.1 h with h | h
      ·exact nd3 id' (by simp [h]) id' hid' rfl
      ·exact hu id' (by simp [hid']) h) n3 (fun i => by
     show RV M1 _ _ (qj ((t, .ptr (s'.nx + 1) 0) :: s'.t) i)
     rw [q9]
     split
     ·rename_i e; subst e; exact ⟨p, qaa, hv⟩
     ·exact (ht i).mono (Ext.refl M1) (n2.trans n4))
    refine ⟨φ'', ⟨m1.holds, m1.blk, m1.fresh, fun id' p' hp' => ?_, m1.dis⟩, m2, (n2.trans n4).trans m3, fun hl => (by cases hl), ?_⟩
    ·rcases m1.org id' p' hp' with hc | ⟨id0, hid, z⟩
     ·exact .inl hc
     ·refine .inr ⟨id0, ?_, z⟩
      simp only [List.mem_append, List.mem_cons, List.not_mem_nil, or_false] at hid ⊢
      rcases hid with h | h | h | h
      ·exact .inl (.inr h)
      ·exact .inl (.inl (.inl h))
      ·exact .inl (.inl (.inr h))
      ·exact .inr h
    ·simp only [List.map_cons, qo]
     exact lfapp (qeV l1 l2) m5
   have hal' : ∀ u, k ≠ .al u := fun u e => hal ⟨u, e⟩
   have hbo' : ∀ p j q, k ≠ .bxo p j q := fun p j q e => hbo ⟨p, j, q, e⟩
   obtain ⟨nb, y, hk⟩ := qfG hq1 hal' hbo' (hs.tm t) hM hs.rel hr1 (fun id hid => hns id (by simp [hid])) (fun id hid => hpn id (by simp [hid]))
   obtain ⟨φ1, n1, n2, n3, n4⟩ := hn.push (a := a) (t := t) hr1 ht hk rfl (fun id hid => hu id (by simp [hid]))
   rw [hk.enc]
   obtain ⟨φ'', m1, m2, m3, m4, m5⟩ := qcp hs hM hr1 vs q2 _ φ1 (q1.pn ++ used) hq2 (fun id hid => hns id (by simp [hid])) (fun id hid => hpn id (by simp [hid])) nd2 (fun id hid hm => by
    rcases List.mem_append.1 hm with h | h
    ·exact nd3 id h id hid rfl
    ·exact hu id (by simp [hid]) h) n1 n2
   refine ⟨φ'', ⟨m1.holds, m1.blk, m1.fresh, fun id p' hp' => ?_, m1.dis⟩, m2, n3.trans m3, fun hl h0 => ?_, ?_⟩
   ·rcases m1.org id p' hp' with hc | ⟨id0, hid, z⟩
    ·exact .inl hc
    ·refine .inr ⟨id0, ?_, z⟩
     simp only [List.mem_append] at hid ⊢
     rcases hid with h | h | h
     ·exact .inl (.inr h)
     ·exact .inl (.inl h)
     ·exact .inr h
   ·cases hl2 : qy k with
    | true =>
     obtain ⟨b, p, e, hp⟩ := hk.lent hl2
     have := n4 b p e
     rw [h0] at this
     exact ⟨p, m3 _ _ this, hp⟩
    | false =>
     have hnb : nb = none ∧ qbp (vs.map (·.2)) = true := by
      cases k with
      | lf kd =>
       refine ⟨?_, hl⟩
       cases nb with
       | none => rfl
       | some bp =>
        obtain ⟨b, p'⟩ := bp
        have := hk.enc 0 q8 [] []
        obtain ⟨z, hz, h3⟩ := qi (show (qbE s kd (qj s.t t)).ob (fun x' => some (⟨[x'], [], qai (qj s.t t)⟩ : At)) = some q1 from hq1)
        cases h3
        have := congrArg St.nx this
        simp [qe, qaX, q8] at this
      | ag ks =>
       refine ⟨?_, hl⟩
       cases nb with
       | none => rfl
       | some bp =>
        obtain ⟨b, p'⟩ := bp
        have := hk.enc 0 q8 [] []
        have := congrArg St.nx this
        simp [qe, qaX, q8] at this
      | al u => exact absurd rfl (hal' u)
      | bo _ => cases hl2
      | bb _ => cases hl2
      | bx _ => cases hl
      | ip _ => cases hl
      | cl _ _ => cases hl
      | it => cases hl
      | ar _ => cases hl
      | ow _ => cases hl
      | ao _ _ _ => cases hl
      | bxo _ _ _ => cases hl
     obtain ⟨rfl, hl3⟩ := hnb
     exact m4 hl3 h0
   ·simp only [List.map_cons, qo]
    have : ∀ {ks js : List Kd} {l m : List V}, qd ks l = true → qd js m = true → qd (ks ++ js) (l ++ m) = true := by
     intro ks
     induction ks with
     | nil => intro js l m h1 h2; cases l with
      | nil => exact h2
      | cons _ _ => cases h1
     | cons k ks ih =>
      intro js l m h1 h2
      cases l with
      | nil => cases h1
      | cons v l =>
       simp only [qd, Bool.and_eq_true] at h1
       simp only [List.cons_append, qd, Bool.and_eq_true]
       exact ⟨h1.1, ih h1.2 h2⟩
    exact this hk.lf m5
theorem qiy {s : St} {vs : List (Nat × Kx)} {ls : List V} (h : qdW s vs = some ls) : qd (qo (vs.map (·.2))) ls = true ∨ ¬ ∃ M φ a w, StR C s M φ a w := by
 by_cases hex : ∃ M φ a w, StR C s M φ a w
 ·left
  obtain ⟨M, φ, a, w, hs⟩ := hex
  obtain ⟨q, hq, h1⟩ := qi h
  obtain ⟨hok, h2⟩ := qf h1
  cases h2
  obtain ⟨nd, hns⟩ := qer hok
  obtain ⟨M1, hr1, st1⟩ := qbU hs.rel q.ns
  obtain ⟨_, _, _, _, _, h5⟩ := qcp hs st1.mem hr1 vs q q8 (fun _ => none) [] hq (fun id hid => by simp only [if_pos hid]) (fun id hid => by rw [if_neg (fun hm => hns id hm hid)]) nd (fun _ _ h => by cases h) (qO.empty hr1) (fun i => qdV)
  exact h5
 ·exact .inr hex
theorem qgS {E : qaZ} {s : St} {vs : List (Nat × Kx)} {ls : List V} (h : qdW s vs = some ls) (hl : E.p0 ≠ none → qbp (vs.map (·.2)) = true) {M : Mem} {φ : Plc} {a : Act} {w : World} (hs : StR C s M φ a w) (hi : Inv E s M φ w) :
  ∃ M' φ', StR C (qe vs q8 ls) M' φ' a w ∧ Inv E (qe vs q8 ls) M' φ' w := by
 obtain ⟨q, hq, h1⟩ := qi h
 obtain ⟨hok, h2⟩ := qf h1
 cases h2
 obtain ⟨nd, hns⟩ := qer hok
 obtain ⟨M1, hr1, st1⟩ := qbU hs.rel q.ns
 obtain ⟨φ'', m1, m2, m3, m4, _⟩ := qcp hs st1.mem hr1 vs q q8 (fun _ => none) [] hq (fun id hid => by simp only [if_pos hid]) (fun id hid => by rw [if_neg (fun hm => hns id hm hid)]) nd (fun _ _ h => by cases h) (qO.empty hr1) (fun i => qdV)
 refine ⟨M1, φ'', ⟨m1.rel hr1, m2, hs.size, hs.defers, m1.fresh, hs.glob.trans st1.mem⟩, ⟨hi.stp.trans (st1.trans ⟨Ext.refl M1, Kp.refl _ w, fun b o h => .inl (m1.owned h), fun _ _ _ h => .inl h⟩), fun p hp => ?_⟩⟩
 obtain ⟨p', e1, e2⟩ := m4 (hl (by rw [hp]; simp)) rfl
 rw [hi.lent p hp] at e2
 cases e2
 exact e1
end
theorem qas {R : Type} : ∀ {ks : List Kd} {f : Fn ks (Option R)} {ls : List V} {r : R}, app ks f ls = some r → qd ks ls = true
 | [], _, [], _, _ => rfl
 | [], _, _ :: _, _, h => by simp [app] at h
 | k :: ks, f, [], _, h => by cases k <;> simp [app] at h
 | .i k :: ks, f, v :: l, r, h => by
  cases v <;> first
   | (simp [app] at h; done)
   | (obtain ⟨h1, h2⟩ := qf h; simp only [qd, qF, Bool.and_eq_true]; exact ⟨h1, qas h2⟩)
 | .b :: ks, f, v :: l, r, h => by cases v <;> first | (simp [app] at h; done) | (simp only [qd, qF, Bool.true_and]; exact qas h)
 | .s :: ks, f, v :: l, r, h => by cases v <;> first | (simp [app] at h; done) | (simp only [qd, qF, Bool.true_and]; exact qas h)
 | .is k :: ks, f, v :: l, r, h => by
  cases v <;> first
   | (simp [app] at h; done)
   | (obtain ⟨h1, h2⟩ := qf h; simp only [qd, qF, Bool.and_eq_true]; exact ⟨h1, qas h2⟩)
 | .rw kz :: ks, f, v :: l, r, h => by
  cases v with
  | rows kz' x =>
   simp only [app] at h
   split at h
   ·rename_i e
    simp only [qd, qF, Bool.and_eq_true, decide_eq_true_eq]; exact ⟨e, qas h⟩
   ·cases h
  | _ => simp [app] at h
 | .fn g :: ks, f, v :: l, r, h => by
  cases v <;> first
   | (simp [app] at h; done)
   | (obtain ⟨h1, h2⟩ := qf h; simp only [qd, qF, Bool.and_eq_true]; exact ⟨h1, qas h2⟩)
 | .nl :: ks, f, v :: l, r, h => by cases v <;> first | (simp [app] at h; done) | (simp only [qd, qF, Bool.true_and]; exact qas (ks := ks) h)
 | .np :: ks, f, v :: l, r, h => by cases v <;> first | (simp [app] at h; done) | (simp only [qd, qF, Bool.true_and]; exact qas (ks := ks) h)
theorem qaF : ∀ {ks : List Kd} {Pr : List V → Prop} {ls : List V}, All ks Pr → qd ks ls = true → Pr ls
 | [], _, [], h, _ => h
 | [], _, _ :: _, _, h => by cases h
 | k :: ks, _, [], _, h => by cases h
 | .i k :: ks, Pr, v :: l, h, ha => by
  simp only [qd, Bool.and_eq_true] at ha
  cases v <;> first
   | (exfalso; have := ha.1; cases this; done)
   | (have := qE ha.1; subst this; exact qaF (Pr := fun l => Pr (_ :: l)) (h _) ha.2)
 | .b :: ks, Pr, v :: l, h, ha => by
  simp only [qd, Bool.and_eq_true] at ha
  cases v <;> first
   | (exfalso; have := ha.1; cases this; done)
   | (exact qaF (Pr := fun l => Pr (_ :: l)) (h _) ha.2)
 | .s :: ks, Pr, v :: l, h, ha => by
  simp only [qd, Bool.and_eq_true] at ha
  cases v <;> first
   | (exfalso; have := ha.1; cases this; done)
   | (exact qaF (Pr := fun l => Pr (_ :: l)) (h _) ha.2)
 | .is k :: ks, Pr, v :: l, h, ha => by
  simp only [qd, Bool.and_eq_true] at ha
  cases v <;> first
   | (exfalso; have := ha.1; cases this; done)
   | (have := qE ha.1; subst this; exact qaF (Pr := fun l => Pr (_ :: l)) (h _) ha.2)
 | .rw kz :: ks, Pr, v :: l, h, ha => by
  simp only [qd, Bool.and_eq_true] at ha
  cases v with
  | rows kz' x =>
   have : kz' = kz := by simpa [qF] using ha.1
   subst this
   exact qaF (Pr := fun l => Pr (_ :: l)) (h _) ha.2
  | _ => exact absurd ha.1 (by simp [qF])
 | .fn g :: ks, Pr, v :: l, h, ha => by
  simp only [qd, Bool.and_eq_true] at ha
  cases v with
  | fn g' =>
   have : g = g' := qu ha.1
   subst this
   exact qaF (Pr := fun l => Pr (_ :: l)) h ha.2
  | _ => exact absurd ha.1 (by simp [qF])
 | .np :: ks, Pr, v :: l, h, ha => by
  simp only [qd, Bool.and_eq_true] at ha
  cases v <;> first
   | (exfalso; have := ha.1; cases this; done)
   | (exact qaF (Pr := fun l => Pr (_ :: l)) h ha.2)
 | .nl :: ks, Pr, v :: l, h, ha => by
  simp only [qd, Bool.and_eq_true] at ha
  cases v <;> first
   | (exfalso; have := ha.1; cases this; done)
   | (exact qaF (Pr := fun l => Pr (_ :: l)) h ha.2)
section
variable {C : Cfg} {P : Program}
theorem qf5 {s : St} {M : Mem} {φ : Plc} {a : Act} {w : World} (hT : TOk P C.T) (hs : StR C s M φ a w) : ∀ (rs : List ResultVar) (vs : List V), qb1 C s rs = some vs →
  ∃ vals : List Value, (rs.mapM fun (x : ResultVar) => (match x with | .tmp t => pure (a.tmps.getD t undef) | .cell b t => (do loadVar t (← asAddr (a.tmps.getD b undef))) : Sem Value)).run P w = .ok vals w ∧ vals.length = rs.length ∧ vs.length = rs.length ∧
   ∀ (i : Nat) v x, vals[i]? = some v → vs[i]? = some x → RV M φ v x
 | [], vs, h => by
  cases h
  exact ⟨[], by simp, rfl, rfl, fun i v x h => by simp at h⟩
 | x :: rs, vs, h => by
  obtain ⟨y, hy, h1⟩ := qi (show (qeB C s x).ob (fun v => (qb1 C s rs).ob fun l => some (v :: l)) = some vs from h)
  obtain ⟨l, hl, h2⟩ := qi h1
  cases h2
  obtain ⟨vals, i1, i2, i3, i4⟩ := qf5 hT hs rs l hl
  have one : ∃ v, (match x with | .tmp t => pure (a.tmps.getD t undef) | .cell b t => (do loadVar t (← asAddr (a.tmps.getD b undef))) : Sem Value).run P w = .ok v w ∧ RV M φ v y := by
   cases x with
   | tmp t =>
    have hy : some (qj s.t t) = some y := hy
    cases hy
    exact ⟨_, by simp, hs.tm t⟩
   | cell b t =>
    simp only [qeB] at hy
    split at hy
    ·rename_i id off hb
     obtain ⟨ti, hti, h3⟩ := qi hy
     obtain ⟨I⟩ := qM (hT _ _ hti)
     unfold qc9 at h3
     simp only at h3
     split at h3
     ·rename_i l' hB
      have hv := hs.tm b
      rw [hb] at hv
      obtain ⟨p, hp, hv⟩ := hv
      have hblk := hs.rel.blk id p hp
      rw [hB] at hblk
      obtain ⟨v, e1, e2⟩ := qei I (b := p.b) (o := p.s) (w := w) h3 hblk.2.2
      refine ⟨v, ?_, e2.rv⟩
      simp only [Sem.run_bind, hv, asAddr, Sem.run_pure, Result.andThen_ok, e1]
     ·cases h3
    ·cases hy
  obtain ⟨v, e1, e2⟩ := one
  refine ⟨v :: vals, ?_, by simp [i2], by simp [i3], fun i v' x' hv hx => ?_⟩
  ·simp only [List.mapM_cons, Sem.run_bind, e1, Result.andThen_ok, i1, Sem.run_pure]
  ·cases i with
   | zero => simp at hv hx; subst hv hx; exact e2
   | succ i => exact i4 i v' x' (by simpa using hv) (by simpa using hx)
theorem qh0 {s : St} {M : Mem} {φ : Plc} {a : Act} {w : World} (hT : TOk P C.T) (hs : StR C s M φ a w) {fn : Func} {vs : List V} (h : qb1 C s fn.results.toList = some vs) :
  ∃ vals : List Value, (results fn a.tmps).run P w = .ok (match vals with | [v] => v | l => .tuple l.toArray) w ∧ vals.length = vs.length ∧ ∀ (i : Nat) v x, vals[i]? = some v → vs[i]? = some x → RV M φ v x := by
 obtain ⟨vals, h1, h2, h3, h4⟩ := qf5 hT hs fn.results.toList vs h
 refine ⟨vals, ?_, h2.trans h3.symm, h4⟩
 unfold results
 simp only [Sem.run_bind, Array.mapM_eq_mapM_toList, Sem.run_map]
 erw [h1]
 simp only [Result.andThen_ok, Sem.run_pure]
 match vals with
 | [] => rfl
 | [v] => rfl
 | v :: v' :: r => simp
end
section
variable {C : Cfg} {P : Program} {M M1 : Mem} {φ : Plc} {B1 : Nat → Blk} {w : World} {s : St}
theorem qiq {B : Nat → Blk} {n : Nat} {b : Blk} {bs : List Blk} : qp (qaj n (b :: bs)) B = qp (qaj (n + 1) bs) (qp [(n, b)] B) := by
 funext id
 have h1 := qbt (B := B) (U := []) (bs := b :: bs) (n := n) (id := id)
 have h2 := qbt (B := qp [(n, b)] B) (U := []) (bs := bs) (n := n + 1) (id := id)
 rw [List.append_nil] at h1 h2
 rw [h1, h2]
 show _ = if n + 1 ≤ id ∧ id < n + 1 + bs.length then _ else qp [(n, b)] B id
 rw [qZ]
 by_cases e : id = n
 ·subst e
  rw [if_pos (by simp), if_neg (by omega), if_pos rfl]
  simp
 ·by_cases h : n + 1 ≤ id ∧ id < n + 1 + bs.length
  ·rw [if_pos (by simp only [List.length_cons]; omega), if_pos h, show id - n = (id - (n + 1)) + 1 by omega]
   simp
  ·rw [if_neg (by simp only [List.length_cons]; omega), if_neg h, if_neg e]
   rfl
theorem qee (hM : Ext M M1) (hr : Rel M φ (qc s.O) w) (hr1 : Rel M1 φ B1 w) :
  ∀ (ks : List Kx) (vs : List V) (q : At) (vals : List Value) (n : Nat) (B' : Nat → Blk) (O : List (Nat × Blk)) (φ' : Plc) (used : List Nat), qco s ks vs = some q → ks.all qan = true → vals.length = vs.length →
   (∀ (i : Nat) v x, vals[i]? = some v → vs[i]? = some x → RV M φ v x) → (∀ id ∈ q.ns, B1 id = qn (qc s.O id)) → (∀ id ∈ q.pn, B1 id = qc s.O id) → q.pn.Nodup → (∀ id ∈ q.pn, id ∉ used) →
   B' = qc O → qO M1 φ B1 w used n B' φ' → ∀ l, ∃ φ'', (qg n ks (q.ls ++ l)).2.2 = l ∧ qO M1 φ B1 w (q.pn ++ used) (n + (qg n ks (q.ls ++ l)).2.1.length) (qp (qaj n (qg n ks (q.ls ++ l)).2.1) B') φ'' ∧ (qr φ' φ'' ∧ ∀ id, id < n → φ'' id = φ' id) ∧
    (qg n ks (q.ls ++ l)).1.length = vals.length ∧ (∀ (i : Nat) v y, vals[i]? = some v → (qg n ks (q.ls ++ l)).1[i]? = some y → RV M1 φ'' v y ∧ qbD y = false) ∧ qd (qo ks) q.ls = true
 | [], [], q, vals, n, B', O, φ', used, h, _, hlen, _, _, _, _, _, _, hn, l => by
  cases h
  have hv : vals = [] := List.length_eq_zero_iff.1 hlen
  subst hv
  have e : qg n [] ([] ++ l) = ([], [], l) := by unfold qg; rfl
  simp only
  rw [e]
  exact ⟨φ', rfl, hn, ⟨qr.refl φ', fun _ _ => rfl⟩, rfl, fun i v y h => by simp at h, rfl⟩
 | k :: ks, x :: vs, q, [], _, _, _, _, _, _, _, hlen, _, _, _, _, _, _, _, _ => by simp at hlen
 | k :: ks, x :: vs, q, v :: vals, n, B', O, φ', used, h, hk, hlen, hrv, hns, hpn, hnd, hu, hBO, hn, l => by
  obtain ⟨q1, hq1, h1⟩ := qi (show (qah s (fun _ => .dead) k x).ob (fun q => (qco s ks vs).ob fun q' => some (⟨q.ls ++ q'.ls, q.pn ++ q'.pn, q.ns ++ q'.ns⟩ : At)) = some q from h)
  obtain ⟨q2, hq2, h2⟩ := qi h1
  cases h2
  simp only at hns hpn hnd hu ⊢
  simp only [List.all_cons, Bool.and_eq_true] at hk
  rw [List.nodup_append] at hnd
  obtain ⟨nd1, nd2, nd3⟩ := hnd
  obtain ⟨nb, y, hkat⟩ := qfG hq1 (fun u e => by subst e; cases hk.1) (fun p j q e => by subst e; cases hk.1) (hrv 0 v x rfl rfl) hM hr hr1 (fun id hid => hns id (by simp [hid])) (fun id hid => hpn id (by simp [hid]))
  have hnotTup : ∀ m, qbD (y m) = false := fun m => by
   cases hy : y m with
   | tup l =>
    have := hkat.out hk.1 m [] []
    rw [List.append_nil] at this
    have h3 := congrArg (fun z => z.1[0]?) this
    cases k with
    | lf kd =>
     obtain ⟨z, hz, h4⟩ := qi (show (qbE s kd x).ob (fun x' => some (⟨[x'], [], qai x⟩ : At)) = some q1 from hq1)
     cases h4
     have hlf := hkat.lf
     simp only [qA, qd, Bool.and_true] at hlf
     cases nb with
     | none => simp only [qg, qal] at h3; simp [hy] at h3; subst h3; cases kd <;> cases hlf
     | some bp => obtain ⟨b, p'⟩ := bp; simp only [qg, qal] at h3; simp [hy] at h3; subst h3; cases kd <;> cases hlf
    | ag js =>
     have e : qg m [.ag js] q1.ls = (.agg (q1.ls.take js.length) :: (qg m [] (q1.ls.drop js.length)).1, (qg m [] (q1.ls.drop js.length)).2.1, (qg m [] (q1.ls.drop js.length)).2.2) := by
      generalize q1.ls = z
      cases z <;> rfl
     rw [e] at h3
     cases nb with
     | none => simp [qal, hy] at h3
     | some bp => obtain ⟨b, p'⟩ := bp; simp [qal, hy] at h3
    | ow k =>
     have hlf := hkat.lf
     simp only [qA] at hlf
     have hsh : ∃ k' z, q1.ls = [.ints k' z] := by
      revert hlf
      generalize q1.ls = z
      intro hlf
      match z, hlf with
      | [], h => cases h
      | [v], h => cases v <;> first | exact ⟨_, _, rfl⟩ | cases h
      | v :: v' :: r, h => simp [qd] at h
     obtain ⟨k', z, hql⟩ := hsh
     rw [hql] at h3
     cases nb with
     | none => simp [qg, qal, hy] at h3
     | some bp => obtain ⟨b, p'⟩ := bp; simp [qg, qal, hy] at h3
    | bx js =>
     have e : qg m [.bx js] q1.ls = (.ptr m 0 :: (qg (m + 1) [] (q1.ls.drop js.length)).1, .cells (q1.ls.take js.length) :: (qg (m + 1) [] (q1.ls.drop js.length)).2.1, (qg (m + 1) [] (q1.ls.drop js.length)).2.2) := by
      generalize q1.ls = z
      cases z <;> rfl
     rw [e] at h3
     cases nb with
     | none => simp [qal, hy] at h3
     | some bp => obtain ⟨b, p'⟩ := bp; simp [qal, hy] at h3
    | ao p j qq =>
     have hlf := hkat.lf
     simp only [qA] at hlf
     obtain ⟨h1, h2⟩ := qaO hlf
     generalize hd : q1.ls.drop p.length = d at h2
     cases d with
     | nil => cases h2
     | cons z d =>
      simp only [qd, Bool.and_eq_true] at h2
      cases z with
      | ints k' x =>
       rw [qet hd] at h3
       cases nb with
       | none => simp [qal, hy] at h3
       | some bp => obtain ⟨b, p'⟩ := bp; simp [qal, hy] at h3
      | _ => cases h2.1
    | _ => cases hk.1
   | _ => rfl
  have tailrv : ∀ (i : Nat) v x, vals[i]? = some v → vs[i]? = some x → RV M φ v x := fun i v x h1 h2 => hrv (i + 1) v x (by simpa using h1) (by simpa using h2)
  have lfs : qd (qo ks) q2.ls = true → qd (qo (k :: ks)) (q1.ls ++ q2.ls) = true := by
   have : ∀ {ks js : List Kd} {l m : List V}, qd ks l = true → qd js m = true → qd (ks ++ js) (l ++ m) = true := by
    intro ks
    induction ks with
    | nil => intro js l m h1 h2; cases l with
     | nil => exact h2
     | cons _ _ => cases h1
    | cons k ks ih =>
     intro js l m h1 h2
     cases l with
     | nil => cases h1
     | cons v l =>
      simp only [qd, Bool.and_eq_true] at h1
      simp only [List.cons_append, qd, Bool.and_eq_true]
      exact ⟨h1.1, ih h1.2 h2⟩
   exact this hkat.lf
  rw [List.append_assoc]
  rw [hkat.out hk.1]
  cases nb with
  | none =>
   obtain ⟨φ'', m1, m2, m3, m4, m5, m6⟩ := qee hM hr hr1 ks vs q2 vals n B' O φ' used hq2 hk.2 (by simpa using hlen) tailrv (fun id hid => hns id (by simp [hid])) (fun id hid => hpn id (by simp [hid])) nd2 (fun id hid => hu id (by simp [hid])) hBO hn l
   simp only [qal]
   refine ⟨φ'', m1, by rw [hkat.n0 rfl]; exact m2, m3, by simp [m4], fun i v' z hv' hz => ?_, lfs m6⟩
   cases i with
   | zero =>
    simp at hv' hz; subst hv' hz
    exact ⟨hkat.rv φ'' n (fun b p' h => by cases h), hnotTup n⟩
   | succ i => exact m5 i v' z (by simpa using hv') (by simpa using hz)
  | some bp =>
   obtain ⟨b, p'⟩ := bp
   obtain ⟨k1, k2, k3⟩ := hkat.n1 b p' rfl
   subst hBO
   obtain ⟨n1, n2⟩ := hn.add hr1 k1 k3 (fun id hid => hu id (by simp [hid]))
   obtain ⟨φ'', m1, m2, m3, m4, m5, m6⟩ := qee hM hr hr1 ks vs q2 vals (n + 1) _ ((n, b) :: O) (qI φ' n p') (q1.pn ++ used) hq2 hk.2 (by simpa using hlen) tailrv (fun id hid => hns id (by simp [hid])) (fun id hid => hpn id (by simp [hid])) nd2
    (fun id hid hm => by
     rcases List.mem_append.1 hm with h | h
     ·exact nd3 id h id hid rfl
     ·exact hu id (by simp [hid]) h) rfl n1 l
   simp only [qal]
   have eB : qc ((n, b) :: O) = qp [(n, b)] (qc O) := by funext id; rw [qda, qZ]
   refine ⟨φ'', m1, ?_, ⟨n2.trans m3.1, fun id hid => (m3.2 id (by omega)).trans (qaD (by omega))⟩, by simp [m4], fun i v' z hv' hz => ?_, lfs m6⟩
   ·rw [qiq, ← eB]
    refine ⟨m2.holds, m2.blk, fun id hid => m2.fresh id (by simp only [List.length_cons] at hid; omega), fun id p' hp' => ?_, m2.dis⟩
    rcases m2.org id p' hp' with hc | ⟨id0, hid, z⟩
    ·exact .inl hc
    ·refine .inr ⟨id0, ?_, z⟩
     simp only [List.mem_append] at hid ⊢
     rcases hid with h | h | h
     ·exact .inl (.inr h)
     ·exact .inl (.inl h)
     ·exact .inr h
   ·cases i with
    | zero =>
     simp at hv' hz; subst hv' hz
     exact ⟨hkat.rv φ'' n (fun b1 p1 h => by cases h; exact m3.1 _ _ qaa), hnotTup n⟩
    | succ i => exact m5 i v' z (by simpa using hv') (by simpa using hz)
 | [], _ :: _, _, _, _, _, _, _, _, h, _, _, _, _, _, _, _, _, _, _ => by cases h
 | _ :: _, [], _, _, _, _, _, _, _, h, _, _, _, _, _, _, _, _, _, _ => by cases h
end
structure qcb (S : Sig) : Prop where
 un : ∀ ls r, app (qo S.rs ++ S.wb) S.mkR ls = some r → S.un r = ls
 wb : S.wb = qaA S.ps
 rs : S.rs.all qan = true
def qaV (S : Sig) : Bool := S.ps.any qy
def base (S : Sig) (ls : List V) (M : Mem) (φ : Plc) (w : World) : qaZ :=
 { M, φ, B := qc (Ent S ls).O, w, p0 := if qaV S = true then φ 0 else none }
def qdE (S : Sig) (ls : List V) (r : S.R) (M : Mem) (φ : Plc) (w : World) : Ending → World → Prop := fun e w' => ∃ v, e = .returned v ∧ qeN S ls r M φ w v w'
section
variable {C : Cfg} {P : Program}
theorem qaM {s : St} {M M1 : Mem} {φ : Plc} {B1 : Nat → Blk} {w : World} (hM : Ext M M1) (hr : Rel M φ (qc s.O) w) (hr1 : Rel M1 φ B1 w) : ∀ {ps : List Kx} {q : At}, qbY s ps = some q → (∀ id ∈ q.ns, B1 id = qn (qc s.O id)) → (∀ id ∈ q.pn, B1 id = qc s.O id) →
  (q.pn = [] ∧ qY ps q.ls = [] ∧ q.ls = [] ∧ ps.any qy = false) ∨ (q.pn = [0] ∧ ps.any qy = true ∧ ∃ blk, qY ps q.ls = [(0, blk)] ∧ qs (B1 0) = true ∧ qw (B1 0) = qw blk ∧ ∀ p, φ 0 = some p → ∀ φ0, RB M1 φ0 w p blk)
 | [], q, h, _, _ => by cases h; exact .inl ⟨rfl, rfl, rfl, rfl⟩
 | .bo k :: r, q, h, hns, hpn => by
  simp only [qbY] at h
  split at h
  ·rename_i k' l hB
   obtain ⟨hk, h1⟩ := qf h
   obtain rfl := qE hk
   cases h1
   refine .inr ⟨rfl, rfl, _, rfl, by rw [hpn 0 (by simp), hB]; rfl, by simp only [hpn 0 (by simp), hB, qw], fun p hp φ0 => ?_⟩
   have := hr.blk 0 p hp
   rw [hB] at this
   exact this
  ·cases h
 | .bb ks :: r, q, h, hns, hpn => by
  simp only [qbY] at h
  split at h
  ·rename_i l hB
   obtain ⟨y, hy, h1⟩ := qi h
   cases h1
   refine .inr ⟨rfl, rfl, _, rfl, by rw [hpn 0 (by simp), hB]; rfl, by simp only [hpn 0 (by simp), hB, qw], fun p hp φ0 => ?_⟩
   have := hr.blk 0 p hp
   rw [hB] at this
   exact (qef hy this hM hr1 hns).2 φ0
  ·cases h
 | .lf _ :: r, q, h, hns, hpn => by
  rcases qaM hM hr hr1 (ps := r) h hns hpn with ⟨a, b, c, d⟩ | ⟨a, b, c⟩
  ·exact .inl ⟨a, b, c, by simpa [qy] using d⟩
  ·exact .inr ⟨a, by simpa [qy] using b, c⟩
 | .ag _ :: r, q, h, hns, hpn => by
  rcases qaM hM hr hr1 (ps := r) h hns hpn with ⟨a, b, c, d⟩ | ⟨a, b, c⟩
  ·exact .inl ⟨a, b, c, by simpa [qy] using d⟩
  ·exact .inr ⟨a, by simpa [qy] using b, c⟩
 | .bx _ :: r, q, h, hns, hpn => by
  rcases qaM hM hr hr1 (ps := r) h hns hpn with ⟨a, b, c, d⟩ | ⟨a, b, c⟩
  ·exact .inl ⟨a, b, c, by simpa [qy] using d⟩
  ·exact .inr ⟨a, by simpa [qy] using b, c⟩
 | .it :: r, q, h, hns, hpn => by
  rcases qaM hM hr hr1 (ps := r) h hns hpn with ⟨a, b, c, d⟩ | ⟨a, b, c⟩
  ·exact .inl ⟨a, b, c, by simpa [qy] using d⟩
  ·exact .inr ⟨a, by simpa [qy] using b, c⟩
 | .ip _ :: r, q, h, hns, hpn => by
  rcases qaM hM hr hr1 (ps := r) h hns hpn with ⟨a, b, c, d⟩ | ⟨a, b, c⟩
  ·exact .inl ⟨a, b, c, by simpa [qy] using d⟩
  ·exact .inr ⟨a, by simpa [qy] using b, c⟩
 | .cl _ _ :: r, q, h, hns, hpn => by
  rcases qaM hM hr hr1 (ps := r) h hns hpn with ⟨a, b, c, d⟩ | ⟨a, b, c⟩
  ·exact .inl ⟨a, b, c, by simpa [qy] using d⟩
  ·exact .inr ⟨a, by simpa [qy] using b, c⟩
 | .ar _ :: r, q, h, hns, hpn => by
  rcases qaM hM hr hr1 (ps := r) h hns hpn with ⟨a, b, c, d⟩ | ⟨a, b, c⟩
  ·exact .inl ⟨a, b, c, by simpa [qy] using d⟩
  ·exact .inr ⟨a, by simpa [qy] using b, c⟩
 | .al _ :: r, q, h, hns, hpn => by
  rcases qaM hM hr hr1 (ps := r) h hns hpn with ⟨a, b, c, d⟩ | ⟨a, b, c⟩
  ·exact .inl ⟨a, b, c, by simpa [qy] using d⟩
  ·exact .inr ⟨a, by simpa [qy] using b, c⟩
 | .ow _ :: r, q, h, hns, hpn => by
  rcases qaM hM hr hr1 (ps := r) h hns hpn with ⟨a, b, c, d⟩ | ⟨a, b, c⟩
  ·exact .inl ⟨a, b, c, by simpa [qy] using d⟩
  ·exact .inr ⟨a, by simpa [qy] using b, c⟩
 | .ao _ _ _ :: r, q, h, hns, hpn => by
  rcases qaM hM hr hr1 (ps := r) h hns hpn with ⟨a, b, c, d⟩ | ⟨a, b, c⟩
  ·exact .inl ⟨a, b, c, by simpa [qy] using d⟩
  ·exact .inr ⟨a, by simpa [qy] using b, c⟩
 | .bxo _ _ _ :: r, q, h, hns, hpn => by
  rcases qaM hM hr hr1 (ps := r) h hns hpn with ⟨a, b, c, d⟩ | ⟨a, b, c⟩
  ·exact .inl ⟨a, b, c, by simpa [qy] using d⟩
  ·exact .inr ⟨a, by simpa [qy] using b, c⟩
theorem qh1 (hT : TOk P C.T) {S : Sig} (hS : qcb S) {fn : Func} {ls : List V} {r : S.R} {M0 : Mem} {φ0 : Plc} {w0 : World} (hf0 : ∀ id, (Ent S ls).nx ≤ id → φ0 id = none) (hnx : qaV S = true → 0 < (Ent S ls).nx) :
  qa0 C (base S ls M0 φ0 w0) (qdm C S fn.results.toList) r (bodyPost P fn (qdE S ls r M0 φ0 w0)) := by
 intro e s h M φ a w hs hi
 have main : (qb1 C s fn.results.toList).ob (fun vs => (qco s S.rs vs).ob fun q => (qbY s S.ps).ob fun w =>
   bc (qct (w.pn ++ q.pn) (w.ns ++ q.ns)) (app (qo S.rs ++ S.wb) S.mkR (q.ls ++ w.ls)) (none)) = some r → a.defers = [] ∧ ∃ v, (results fn a.tmps).run P w = .ok v w ∧ qdE S ls r M0 φ0 w0 (.returned v) w := by
  intro h
  refine ⟨hs.defers, ?_⟩
  obtain ⟨vs, hvs, h1⟩ := qi h
  obtain ⟨q, hq, h2⟩ := qi h1
  obtain ⟨lw, hlw, h3⟩ := qi h2
  obtain ⟨hok, h4⟩ := qf h3
  obtain ⟨nd, hns⟩ := qer hok
  rw [List.nodup_append] at nd
  obtain ⟨nd1, nd2, nd3⟩ := nd
  obtain ⟨vals, hrun, hlen, hrv⟩ := qh0 (P := P) hT hs hvs
  have hun := hS.un _ _ h4
  obtain ⟨M1, hr1, st1⟩ := qbU hs.rel (lw.ns ++ q.ns)
  have hB1 : ∀ id ∈ lw.ns ++ q.ns, (if id ∈ lw.ns ++ q.ns then qn (qc s.O id) else qc s.O id) = qn (qc s.O id) := fun id hid => if_pos hid
  have hB2 : ∀ id ∈ lw.pn ++ q.pn, (if id ∈ lw.ns ++ q.ns then qn (qc s.O id) else qc s.O id) = qc s.O id := fun id hid => if_neg fun hm => hns id hm hid
  have hl := qaM st1.mem hs.rel hr1 hlw (fun id hid => hB1 id (by simp [hid])) (fun id hid => hB2 id (by simp [hid]))
  have start : ∃ φ1, qO M1 φ (fun id => if id ∈ lw.ns ++ q.ns then qn (qc s.O id) else qc s.O id) w lw.pn (Ent S ls).nx (qc (qY S.ps lw.ls)) φ1 ∧ (∀ p, qaV S = true → φ0 0 = some p → φ1 0 = some p) ∧ ∀ id p, φ1 id = some p → id = 0 ∧ qaV S = true ∧ φ0 0 = some p := by
   rcases hl with ⟨l1, l2, l3, l4⟩ | ⟨l1, l4, blk, l5, l6, l8, l7⟩
   ·rw [l1, l2]
    have hnl : ¬ qaV S = true := fun h => by unfold qaV at h; rw [l4] at h; cases h
    exact ⟨fun _ => none, ⟨hr1.holds, fun id p h => (by cases h), fun _ _ => rfl, fun id p h => (by cases h), fun id id' p p' _ h => (by cases h)⟩, fun p h => absurd h hnl, fun id p h => (by cases h)⟩
   ·have hle : qaV S = true := l4
    rw [l1, l5]
    cases h0 : φ0 0 with
    | none => exact ⟨fun _ => none, ⟨hr1.holds, fun id p h => (by cases h), fun _ _ => rfl, fun id p h => (by cases h), fun id id' p p' _ h => (by cases h)⟩, fun p _ h => (by cases h), fun id p h => (by cases h)⟩
    | some p =>
     have hp : φ 0 = some p := hi.lent p (by simp only [base, hle, if_true]; exact h0)
     obtain ⟨n1, n2⟩ := (qO.empty hr1).add (pn := [0]) (p' := p) (blk := blk) hr1 (l7 p hp) (.inr ⟨0, p, rfl, hp, l6, rfl, rfl, rfl, l8⟩) (fun _ _ h => by cases h)
     have n1' : qO M1 φ (fun id => if id ∈ lw.ns ++ q.ns then qn (qc s.O id) else qc s.O id) w [0] (Ent S ls).nx (qc [(0, blk)]) (qI (fun _ => none) 0 p) :=
      ⟨n1.holds, n1.blk, fun id hid => n1.fresh id (by have := hnx hle; omega), fun id p' hp' => (by simpa using n1.org id p' hp'), n1.dis⟩
     refine ⟨_, n1', fun p' _ h => (by cases h; exact qaa), fun id p' h => ?_⟩
     rcases qar h with ⟨rfl, rfl⟩ | ⟨_, h⟩
     ·exact ⟨rfl, hle, rfl⟩
     ·cases h
  obtain ⟨φ1, k1, k2, k3⟩ := start
  obtain ⟨φ2, m1, m2, m3, m4, m5, m6⟩ := qee st1.mem hs.rel hr1 S.rs vs q vals (Ent S ls).nx _ _ φ1 lw.pn hq hS.rs hlen hrv (fun id hid => hB1 id (by simp [hid])) (fun id hid => hB2 id (by simp [hid])) nd2
   (fun id hid hm => nd3 id hm id hid rfl) rfl k1 lw.ls
  generalize hou : qg (Ent S ls).nx S.rs (q.ls ++ lw.ls) = ou at m1 m2 m4 m5
  obtain ⟨ys, bs, rest⟩ := ou
  simp only at m1 m2 m4 m5
  subst m1
  have hBout : qaf S (Ent S ls).nx r = qp (qaj (Ent S ls).nx bs) (qc (qY S.ps lw.ls)) := by
   unfold qaf
   rw [hun, hou]
   funext id
   rw [qeK]
   congr 1
   funext id
   have := qbZ (qY S.ps lw.ls) [] id
   rw [List.append_nil] at this
   exact this.symm
  have hm2 := m2.rel hr1
  let φ' : Plc := fun id => if id < (Ent S ls).nx then φ0 id else φ2 id
  have hlow : ∀ id, id < (Ent S ls).nx → φ2 id = φ1 id := m3.2
  have hP2 : qr φ2 φ' := fun id p hp => by
   simp only [φ']
   split
   ·rename_i hid
    rw [hlow id hid] at hp
    obtain ⟨rfl, _, e⟩ := k3 id p hp
    exact e
   ·exact hp
  have hlive : ∀ id p, φ' id = some p → φ2 id = some p ∨ qaf S (Ent S ls).nx r id = .gone := fun id p hp => by
   simp only [φ'] at hp
   split at hp
   ·rename_i hid
    have hb : qaf S (Ent S ls).nx r id = qc (qY S.ps lw.ls) id := by
     rw [hBout]
     have := qbt (bs := bs) (n := (Ent S ls).nx) (U := []) (B := qc (qY S.ps lw.ls)) (id := id)
     rw [List.append_nil, if_neg (by omega)] at this
     exact this
    rw [hb, hlow id hid]
    rcases hl with ⟨l1, l2, l3, l4⟩ | ⟨l1, l4, blk, l5, l6, l8, l7⟩
    ·rw [l2]; exact .inr rfl
    ·rw [l5, qej]
     by_cases h0 : id = 0
     ·subst h0
      exact .inl (k2 p l4 hp)
     ·rw [if_neg h0]; exact .inr rfl
   ·exact .inl hp
  have hown : ∀ id p, φ' id = some p → qs (qaf S (Ent S ls).nx r id) = true → φ2 id = some p := fun id p hp ha => by
   rcases hlive id p hp with h | h
   ·exact h
   ·rw [h] at ha; cases ha
  have hrel : Rel M1 φ' (qaf S (Ent S ls).nx r) w := by
   refine ⟨hm2.holds, fun id p hp => ?_, fun id p hp ha => ?_, fun id id' p p' hne hp hp' ha ha' => ?_⟩
   ·rcases hlive id p hp with h | h
    ·have := hm2.blk id p h
     rw [hBout]
     exact this.mono (Ext.refl M1) hP2 (fun _ _ _ _ h => h)
    ·rw [h]; trivial
   ·rw [hBout]; exact m2.own hr1 id p (hown id p hp ha)
   ·exact m2.dis id id' p p' hne (hown id p hp ha) (hown id' p' hp' ha')
  refine ⟨_, hrun, _, rfl, by rw [hun]; exact qas h4, M1, φ', ?_, hrel, ?_, fun id p hp => ?_⟩
  ·rw [hun, hou]
   match hvl : vals, hyl : ys, m4, m5 with
   | [v], [y], _, m5 => exact ((m5 0 v y rfl rfl).1).mono (Ext.refl M1) hP2
   | [], [], _, _ => exact ⟨#[], rfl, rfl, fun j y hy => by simp at hy⟩
   | v :: v' :: vr, y :: y' :: yr, m4, m5 =>
    refine ⟨(v :: v' :: vr).toArray, rfl, by simpa using m4.symm, fun j z hz => ?_⟩
    have hj : j < (v :: v' :: vr).length := by have := (List.getElem?_eq_some_iff.1 hz).1; omega
    obtain ⟨e1, e2⟩ := m5 j _ z (List.getElem?_eq_getElem hj) hz
    refine ⟨(v :: v' :: vr)[j], by rw [List.getElem?_toArray]; exact List.getElem?_eq_getElem hj, ?_⟩
    rw [qb9 e2] at e1
    exact e1.mono (Ext.refl M1) hP2
   | [], _ :: _, m4, _ => simp at m4
   | _ :: _, [], m4, _ => simp at m4
   | [_], _ :: _ :: _, m4, _ => simp at m4
   | _ :: _ :: _, [_], m4, _ => simp at m4
  ·refine (hi.stp.trans st1).trans ⟨Ext.refl M1, Kp.refl _ w, fun b o h => .inl ?_, fun _ _ _ h => .inl h⟩
   obtain ⟨id, p, j, hp, ha, hj, rfl, rfl⟩ := h
   have h2 := hown id p hp ha
   exact m2.owned ⟨id, p, j, h2, by rw [← hBout]; exact ha, hj, rfl, rfl⟩
  ·simp only [φ']
   split
   ·exact hp
   ·rename_i hid
    rw [hf0 id (by omega)] at hp
    cases hp
 cases e with
 | exit id => cases h
 | normal => exact main h
 | ret => exact main h
end
theorem qcR {ds : List Bool} {b : Bool} {n : Nat} : qD (ds ++ [b]) n = 2 * qD ds n + (if b = true then 1 else 0) := by
 rw [qau]
 cases b <;> rfl
theorem qcQ : ∀ {ds : List Bool} {n : Nat}, 1 ≤ n → 1 ≤ qD ds n
 | [], _, h => h
 | false :: ds, n, h => qcQ (ds := ds) (by omega)
 | true :: ds, n, h => qcQ (ds := ds) (by omega)
theorem qds : ∀ (l : List Bool), l = [] ∨ ∃ m b, l = m ++ [b]
 | [] => .inl rfl
 | x :: l => by
  rcases qds l with rfl | ⟨m, b, rfl⟩
  ·exact .inr ⟨[], x, rfl⟩
  ·exact .inr ⟨x :: m, b, rfl⟩
theorem qgR : ∀ (n : Nat) (ds es : List Bool), ds.length = n → qD ds 1 = qD es 1 → ds = es := by
 intro n
 induction n with
 | zero =>
  intro ds es h e
  have := List.length_eq_zero_iff.1 h
  subst this
  rcases qds es with rfl | ⟨m, b, rfl⟩
  ·rfl
  ·rw [qcR] at e
   have := qcQ (ds := m) (n := 1) (Nat.le_refl _)
   simp only [qD] at e
   omega
 | succ n ih =>
  intro ds es h e
  rcases qds ds with rfl | ⟨m, b, rfl⟩
  ·simp at h
  rcases qds es with rfl | ⟨m', b', rfl⟩
  ·rw [qcR] at e
   have := qcQ (ds := m) (n := 1) (Nat.le_refl _)
   simp only [qD] at e
   omega
  ·rw [qcR, qcR] at e
   have hb : b = b' := by cases b <;> cases b' <;> simp at e ⊢ <;> omega
   subst hb
   rw [ih m m' (by simpa using h) (by omega)]
theorem qfj : ∀ {l : List Cut} {i p j : Nat} {t : Cut}, qcl l i p = some (j, t) → ∃ n, j = i + n ∧ l[n]? = some t ∧ t.code = p
 | [], _, _, _, _, h => by cases h
 | c :: r, i, p, j, t, h => by
  rcases qat (show bc (Nat.beq c.code p) (some (i, c)) (qcl r (i + 1) p) = some (j, t) from h) with ⟨h1, h2⟩ | ⟨_, h2⟩
  ·cases h2
   exact ⟨0, rfl, rfl, qu h1⟩
  ·obtain ⟨n, e1, e2, e3⟩ := qfj h2
   exact ⟨n + 1, by omega, by simpa using e2, e3⟩
def qch (l : Bool) : List Cut → Bool
 | [] => true
 | t :: r => Nat.beq t.code (qD t.dirs 1) && (!l || qbp (t.vs.map (·.2))) && qch l r
theorem qe2 {l : Bool} : ∀ {cs : List Cut} {i : Nat} {t : Cut}, qch l cs = true → cs[i]? = some t → t.code = qD t.dirs 1 ∧ (l = true → qbp (t.vs.map (·.2)) = true)
 | [], _, _, _, h => by simp at h
 | c :: r, i, t, h, hi => by
  simp only [qch, Bool.and_eq_true, Bool.or_eq_true, Bool.not_eq_true'] at h
  cases i with
  | zero =>
   simp at hi; subst hi
   exact ⟨qu h.1.1, fun hl => h.1.2.resolve_left (by rw [hl]; simp)⟩
  | succ i => exact qe2 h.2 (by simpa using hi)
def qcG {R : Type} : List (qaI R) → Prop
 | [] => True
 | c :: r => All (qo (c.vs.map (·.2))) (fun ls => app (qo (c.vs.map (·.2))) c.f ls = none) ∧ qcG r
def qcJ (C : Cfg) (S : Sig) (c : Code) (rs : List ResultVar) (H : Hd S.R) : List Cut → List (qaI S.R) → Prop
 | [], [] => True
 | t :: ts, f :: fs => t.vs = f.vs ∧ All (qo (f.vs.map (·.2))) (fun ls => qdn C S c rs H t ls = app (qo (f.vs.map (·.2))) f.f ls) ∧ qcJ C S c rs H ts fs
 | _, _ => False
theorem qfq {R : Type} : ∀ {L : List (qaI R)} {i : Nat} {ls : List V}, qcG L → qaS L i ls = none
 | [], _, _, _ => rfl
 | c :: r, 0, ls, h => by
  cases e : qaS (c :: r) 0 ls with
  | none => rfl
  | some x =>
   have h1 : app (qo (c.vs.map (·.2))) c.f ls = some x := e
   have := qaF h.1 (qas h1)
   rw [this] at h1; cases h1
 | c :: r, i + 1, ls, h => qfq (L := r) h.2
theorem qfr {C : Cfg} {S : Sig} {c : Code} {rs : List ResultVar} {H : Hd S.R} {r : S.R} : ∀ {ts : List Cut} {fs : List (qaI S.R)} {i : Nat} {t : Cut} {ls : List V}, qcJ C S c rs H ts fs → ts[i]? = some t → qaS fs i ls = some r → qdn C S c rs H t ls = some r
 | [], _, _, _, _, _, h, _ => by simp at h
 | t :: ts, f :: fs, 0, t', ls, h, ht, hh => by
  simp at ht; subst ht
  have h1 : app (qo (f.vs.map (·.2))) f.f ls = some r := hh
  rw [qaF h.2.1 (qas h1)]
  exact h1
 | t :: ts, f :: fs, i + 1, t', ls, h, ht, hh => qfr h.2.2 (by simpa using ht) hh
 | _ :: _, [], _, _, _, h, _, _ => h.elim
theorem qao {i : Nat} : ∀ {vs : List (Nat × Kx)} {s : St} {l : List V}, (∀ q ∈ vs, q.1 ≠ i) → qj (qe vs s l).t i = qj s.t i
 | [], s, l, _ => by rw [qcj]
 | (t, k) :: r, s, l, h => by
  have h0 : i ≠ t := fun e => h (t, k) (by simp) e.symm
  have hr : ∀ q ∈ r, q.1 ≠ i := fun q hq => h q (by simp [hq])
  have c : ∀ {y : V} {t0 : List (Nat × V)}, qj ((t, y) :: t0) i = qj t0 i := fun {y t0} => by rw [q9, if_neg h0]
  cases k with
  | lf kd =>
   cases l with
   | nil => unfold qe; rfl
   | cons v l => unfold qe; rw [qao hr]; exact c
  | ag ks => unfold qe; rw [qao hr]; exact c
  | bx ks => unfold qe; rw [qao hr]; exact c
  | bb ks => unfold qe; rw [qao hr]; exact c
  | al u => unfold qe; rw [qao hr]; exact c
  | ip ks => unfold qe; rw [qao hr]; exact c
  | cl f kss => unfold qe; rw [qao hr]; exact c
  | it =>
   match l with
   | [] => unfold qe; rfl
   | [v] => cases v <;> unfold qe <;> rfl
   | v :: v' :: l => cases v <;> cases v' <;> unfold qe <;> first | rfl | (rw [qao hr]; exact c)
  | ow k =>
   cases l with
   | nil => unfold qe; rfl
   | cons v l => cases v <;> unfold qe <;> first | rfl | (rw [qao hr]; exact c)
  | ar k =>
   cases l with
   | nil => unfold qe; rfl
   | cons v l => cases v <;> unfold qe <;> first | rfl | (rw [qao hr]; exact c)
  | bo k =>
   cases l with
   | nil => unfold qe; rfl
   | cons v l => cases v <;> unfold qe <;> first | rfl | (rw [qao hr]; exact c)
  | ao p k q =>
   unfold qe
   split
   ·rw [qao hr]; exact c
   ·rfl
  | bxo p k q =>
   unfold qe
   split
   ·rw [qao hr]; exact c
   ·rfl
theorem qex : ∀ {ps : List Kx} {n : Nat} {q : Nat × Kx}, q ∈ qS n ps → n ≤ q.1 ∧ q.1 < n + ps.length
 | [], _, _, h => by cases h
 | k :: r, n, q, h => by
  rcases List.mem_cons.1 h with rfl | h
  ·simp
  ·have := qex (ps := r) h
   simp only [List.length_cons]
   omega
theorem qav : ∀ {ps : List Kx} {n : Nat} {s : St} {ls : List V}, qd (qo ps) ls = true → s.nx ≤ (qe (qS n ps) s ls).nx ∧ (ps.any qy = true → s.nx < (qe (qS n ps) s ls).nx)
 | [], n, s, ls, _ => by
  rw [qS, qcj]
  exact ⟨Nat.le_refl _, fun h => by cases h⟩
 | k :: r, n, s, ls, h => by
  simp only [qo] at h
  obtain ⟨h1, h2⟩ := qaO h
  rw [qS]
  cases k with
  | lf kd =>
   simp only [qA] at h1 h2
   cases ls with
   | nil => cases h1
   | cons v l =>
    unfold qe
    have := qav (n := n + 1) (s := { s with t := (n, v) :: s.t }) (by simpa using h2)
    exact ⟨this.1, fun hl => this.2 (by simpa [qy] using hl)⟩
  | ag ks =>
   unfold qe
   have := qav (n := n + 1) (s := { s with t := (n, .agg (ls.take ks.length)) :: s.t }) h2
   exact ⟨this.1, fun hl => this.2 (by simpa [qy] using hl)⟩
  | al u =>
   unfold qe
   have := qav (n := n + 1) (s := { s with t := (n, qj s.t u) :: s.t }) (ls := ls) (by simpa [qA] using h2)
   exact ⟨this.1, fun hl => this.2 (by simpa [qy] using hl)⟩
  | ip ks =>
   unfold qe
   have := qav (n := n + 1) (s := { s with t := (n, .iptr (ls.take ks.length)) :: s.t }) h2
   exact ⟨this.1, fun hl => this.2 (by simpa [qy] using hl)⟩
  | cl f kss =>
   unfold qe
   have := qav (n := n + 1) (s := { s with t := (n, .clo f (qcz kss ls)) :: s.t }) h2
   exact ⟨this.1, fun hl => this.2 (by simpa [qy] using hl)⟩
  | it =>
   simp only [qA] at h1 h2
   match ls with
   | [] => cases h1
   | [v] => cases v <;> first | (cases h1; done) | (simp [List.take, qd, qF] at h1)
   | v :: v' :: l =>
    cases v with
    | str x =>
     cases v' with
     | int k' z =>
      unfold qe
      have := qav (n := n + 1) (s := { t := (n, .ptr s.nx 0) :: s.t, O := (s.nx, .iter x z) :: s.O, nx := s.nx + 1 }) (ls := l) (by simpa using h2)
      have h3 := this.1
      simp only at h3
      exact ⟨by omega, fun _ => by omega⟩
     | _ => simp [qd, qF] at h1
    | _ => simp [qd, qF] at h1
  | bx ks =>
   simp only [qA] at h2
   unfold qe
   have := qav (n := n + 1) (s := { t := (n, .ptr s.nx 0) :: s.t, O := (s.nx, .cells (ls.take ks.length)) :: s.O, nx := s.nx + 1 }) h2
   have h3 := this.1
   simp only at h3
   exact ⟨by omega, fun _ => by omega⟩
  | bb ks =>
   simp only [qA] at h2
   unfold qe
   have := qav (n := n + 1) (s := { t := (n, .ptr s.nx 0) :: s.t, O := (s.nx, .cells (ls.take ks.length)) :: s.O, nx := s.nx + 1 }) h2
   have h3 := this.1
   simp only at h3
   exact ⟨by omega, fun _ => by omega⟩
  | ar k =>
   simp only [qA] at h1 h2
   cases ls with
   | nil => cases h1
   | cons v l =>
    cases v with
    | ints k' x =>
     unfold qe
     have := qav (n := n + 1) (s := { t := (n, .ptr s.nx 0) :: s.t, O := (s.nx, .ints k x false) :: s.O, nx := s.nx + 1 }) (ls := l) (by simpa using h2)
     have h3 := this.1
     simp only at h3
     exact ⟨by omega, fun _ => by omega⟩
    | _ => cases h1
  | ao p k q =>
   simp only [qA, List.append_assoc] at h
   obtain ⟨g1, g2⟩ := qaO h
   generalize hd : ls.drop p.length = d at g2
   cases d with
   | nil => cases g2
   | cons v m =>
    simp only [List.cons_append, qd, Bool.and_eq_true] at g2
    obtain ⟨g3, g4⟩ := qaO g2.2
    cases v with
    | ints k' x =>
     have e : qe ((n, .ao p k q) :: qS (n + 1) r) s ls = qe (qS (n + 1) r) { t := (n, .agg (ls.take p.length ++ .own s.nx :: m.take q.length)) :: s.t, O := (s.nx, .ints k x true) :: s.O, nx := s.nx + 1 } (m.drop q.length) := by
      conv => lhs; unfold qe
      rw [hd]
     rw [e]
     have := qav (n := n + 1) (s := { t := (n, .agg (ls.take p.length ++ .own s.nx :: m.take q.length)) :: s.t, O := (s.nx, .ints k x true) :: s.O, nx := s.nx + 1 }) (ls := m.drop q.length) g4
     have h3 := this.1
     simp only at h3
     exact ⟨by omega, fun _ => by omega⟩
    | _ => cases g2.1
  | bxo p k q =>
   simp only [qA, List.append_assoc] at h
   obtain ⟨g1, g2⟩ := qaO h
   generalize hd : ls.drop p.length = d at g2
   cases d with
   | nil => cases g2
   | cons v m =>
    simp only [List.cons_append, qd, Bool.and_eq_true] at g2
    obtain ⟨g3, g4⟩ := qaO g2.2
    cases v with
    | ints k' x =>
     have e : qe ((n, .bxo p k q) :: qS (n + 1) r) s ls = qe (qS (n + 1) r) { t := (n, .ptr (s.nx + 1) 0) :: s.t, O := (s.nx + 1, .cells (ls.take p.length ++ .own s.nx :: m.take q.length)) :: (s.nx, .ints k x true) :: s.O, nx := s.nx + 2 } (m.drop q.length) := by
      conv => lhs; unfold qe
      rw [hd]
     rw [e]
     have := qav (n := n + 1) (s := { t := (n, .ptr (s.nx + 1) 0) :: s.t, O := (s.nx + 1, .cells (ls.take p.length ++ .own s.nx :: m.take q.length)) :: (s.nx, .ints k x true) :: s.O, nx := s.nx + 2 }) (ls := m.drop q.length) g4
     have h3 := this.1
     simp only at h3
     exact ⟨by omega, fun _ => by omega⟩
    | _ => cases g2.1
  | ow k =>
   simp only [qA] at h1 h2
   cases ls with
   | nil => cases h1
   | cons v l =>
    cases v with
    | ints k' x =>
     unfold qe
     have := qav (n := n + 1) (s := { t := (n, .own s.nx) :: s.t, O := (s.nx, .ints k x true) :: s.O, nx := s.nx + 1 }) (ls := l) (by simpa using h2)
     have h3 := this.1
     simp only at h3
     exact ⟨by omega, fun _ => by omega⟩
    | _ => cases h1
  | bo k =>
   simp only [qA] at h1 h2
   cases ls with
   | nil => cases h1
   | cons v l =>
    cases v with
    | ints k' x =>
     unfold qe
     have := qav (n := n + 1) (s := { t := (n, .own s.nx) :: s.t, O := (s.nx, .ints k x false) :: s.O, nx := s.nx + 1 }) (ls := l) (by simpa using h2)
     have h3 := this.1
     simp only at h3
     exact ⟨by omega, fun _ => by omega⟩
    | _ => cases h1
section
variable {P : Program}
theorem StR.cfg {C C' : Cfg} {s : St} {M : Mem} {φ : Plc} {a : Act} {w : World} (h : StR C s M φ a w) (e : C'.nt = C.nt) (e2 : C'.M0 = C.M0) : StR C' s M φ a w := ⟨h.rel, h.tm, by rw [e]; exact h.size, h.defers, h.fresh, by rw [e2]; exact h.glob⟩
theorem qfe {C : Cfg} {R β : Type} {r : R} {rb : β} (hT : TOk P C.T) (hG : ∀ f F, F ∈ C.G f → qR P C.M0 f F) (hm : P.follows .mixedOrders = true) {E : qaZ} {c0 : Code} {Q0 : Exit → Act → World → Prop} {H : Hd R} (hcl : qcE C P E c0 Q0 H r) {F : Code → Nat → Kt R → Option β} :
  ∀ (ds : List Bool) (c : Code) (es : List Bool) (p : Nat) (Q : Exit → Act → World → Prop) (K : Kt R), p = qD es 1 → qm P c0 es Q0 = some (c, Q) → qa0 C E K r Q → qay C H c ds p K F = some rb →
   ∃ c' Q' K', qm P c0 (es ++ ds) Q0 = some (c', Q') ∧ qa0 C E K' r Q' ∧ F c' (qD (es ++ ds) 1) K' = some rb
 | [], c, es, p, Q, K, hp, hw, hK, h => by
  have : qay C H c [] p K F = F c p K := by unfold qay; cases c <;> rfl
  rw [this, hp] at h
  exact ⟨c, Q, K, by rw [List.append_nil]; exact hw, hK, by rw [List.append_nil]; exact h⟩
 | d :: ds, c, es, p, Q, K, hp, hw, hK, h => by
  have step : ∀ {c1 : Code} {Q1 : Exit → Act → World → Prop} {K1 : Kt R} {p1 : Nat}, qm P c [d] Q = some (c1, Q1) → p1 = qD (es ++ [d]) 1 → qa0 C E K1 r Q1 → qay C H c1 ds p1 K1 F = some rb →
    ∃ c' Q' K', qm P c0 (es ++ d :: ds) Q0 = some (c', Q') ∧ qa0 C E K' r Q' ∧ F c' (qD (es ++ d :: ds) 1) K' = some rb := by
   intro c1 Q1 K1 p1 h1 h2 h3 h4
   have := qfe hT hG hm hcl ds c1 (es ++ [d]) p1 Q1 K1 h2 (by rw [qag hw]; exact h1) h3 h4
   rwa [List.append_assoc] at this
  have sn : ∀ {c1 : Code} {Q1 : Exit → Act → World → Prop}, qm P c1 [] Q1 = some (c1, Q1) := fun {c1 Q1} => by unfold qm; cases c1 <;> rfl
  have pf : 2 * p = qD (es ++ [false]) 1 := by rw [qau, ← hp]; rfl
  have pt : 2 * p + 1 = qD (es ++ [true]) 1 := by rw [qau, ← hp]; rfl
  cases c with
  | seq x y =>
   cases d with
   | false =>
    refine step (c1 := x) (Q1 := Exit.then (y.wp P Q) Q) (by simp only [qm]) pf ?_ h
    intro e s1 h2 M1 φ1 a1 w1 hs1 hi1
    have wy : qm P c0 (es ++ [true]) Q0 = some (y, Q) := by rw [qag hw]; simp only [qm]
    cases e with
    | normal => exact qaP hcl pt wy h2 (fun h3 => qaL hT hG hm hcl y _ _ _ _ s1 pt wy h3 hK) M1 φ1 a1 w1 hs1 hi1
    | exit id => exact hK (.exit id) s1 h2 M1 φ1 a1 w1 hs1 hi1
    | ret => exact hK .ret s1 h2 M1 φ1 a1 w1 hs1 hi1
   | true => exact step (c1 := y) (Q1 := Q) (by simp only [qm]) pt hK h
  | cond b x y =>
   cases d with
   | false => exact step (c1 := x) (Q1 := Q) (by simp only [qm]) pf hK h
   | true => exact step (c1 := y) (Q1 := Q) (by simp only [qm]) pt hK h
  | block id x =>
   cases d with
   | false =>
    refine step (c1 := x) (Q1 := Exit.inBlock id Q) (by simp only [qm]) pf ?_ h
    intro e s1 h2 M1 φ1 a1 w1 hs1 hi1
    cases e with
    | normal => exact hK .normal s1 h2 M1 φ1 a1 w1 hs1 hi1
    | exit id' =>
     simp only [ex, Exit.inBlock]
     rcases qat (show bc (Nat.beq id' id) (K .normal s1) (K (.exit id') s1) = some r from h2) with ⟨hb, h3⟩ | ⟨hb, h3⟩
     ·rw [if_pos (qu hb)]; exact hK .normal s1 h3 M1 φ1 a1 w1 hs1 hi1
     ·rw [if_neg (fun e => by subst e; have := Nat.beq_refl id'; rw [hb] at this; cases this)]; exact hK (.exit id') s1 h3 M1 φ1 a1 w1 hs1 hi1
    | ret => exact hK .ret s1 h2 M1 φ1 a1 w1 hs1 hi1
   | true => cases h
  | loop x =>
   cases d with
   | false =>
    refine step (c1 := x) (Q1 := Exit.then (qaN P x Q) Q) (by simp only [qm]) pf ?_ h
    intro e s1 h2 M1 φ1 a1 w1 hs1 hi1
    cases e with
    | normal =>
     have h5 : qae C H p (fun _ => none) s1 = some r := h2
     clear h2
     unfold qae at h5
     split at h5
     ·rename_i i t hfc
      subst hp
      exact hcl es i t hfc _ Q hw s1 h5 M1 φ1 a1 w1 hs1 hi1
     ·cases h5
    | exit id => exact hK (.exit id) s1 h2 M1 φ1 a1 w1 hs1 hi1
    | ret => exact hK .ret s1 h2 M1 φ1 a1 w1 hs1 hi1
   | true => cases h
  | scope x =>
   cases d with
   | false => exact step (c1 := x) (Q1 := Exit.noGoto Q) (by simp only [qm]) pf hK.noGoto h
   | true => cases h
  | _ => simp [qay] at h
theorem qR.of {fi : Nat} {M0 : Mem} {S : Sig} {C : Nat → Cfg} {H : Nat → List (qaI S.R)} {f : Nat → Fn (qo S.ps) (Option S.R)} {fn : Func} {c0 : Code} (hf : P.funcs[fi]? = some fn) (hname : (fn.name == "runtime.NumGoroutine") = false) (hbody : fn.body = some c0)
  (hm : P.follows .mixedOrders = true) (hT : ∀ k, TOk P (C k).T) (hS : qcb S) (hnt : ∀ k, (C k).nt = fn.ntmps) (hM0 : ∀ k, (C k).M0 = M0) (hcuts : ∀ k, (C k).cuts = (C 0).cuts) (hck : qch (qaV S) (C 0).cuts = true) (h0 : qcG (H 0))
  (hs : ∀ k, qcJ (C k) S c0 fn.results.toList (qaS (H k)) (C 0).cuts (H (k + 1)))
  (he : ∀ k, All (qo S.ps) fun ls => qeE (C k) S c0 fn.results.toList (qaS (H k)) ls = app (qo S.ps) (f k) ls) (hG : ∀ k g F, F ∈ (C k).G g → qR P M0 g F) : ∀ k, qR P M0 fi ⟨S, f k⟩ := by
 intro k
 refine ⟨⟨fn, c0, hf, hname, hbody⟩, hS.wb, hS.rs, fun M φ w args ls r hgl hc hr => ?_⟩
 have hG : ∀ k g F, F ∈ (C k).G g → qR P (C k).M0 g F := fun k g F h => by rw [hM0 k]; exact hG k g F h
 have hlf := qas hr
 obtain ⟨nx1, nx2⟩ := qav (n := 0) (s := q8) hlf
 let E := base S ls M φ w
 let Q0 := bodyPost P fn (qdE S ls r M φ w)
 have good : ∀ C' : Cfg, TOk P C'.T → qa0 C' E (qdm C' S fn.results.toList) r Q0 := fun C' hT' => qh1 hT' hS hc.fresh (fun hl => nx2 hl)
 have hE : E.p0 ≠ none → qaV S = true := fun h => by
  cases hl : qaV S with
  | true => rfl
  | false => exact absurd (by simp only [E, base, hl]; rfl) h
 have wp0 : qm P c0 [] Q0 = some (c0, Q0) := by unfold qm; cases c0 <;> rfl
 have cuts : ∀ k (C' : Cfg), C'.cuts = (C 0).cuts → C'.nt = fn.ntmps → C'.M0 = M0 → qcE C' P E c0 Q0 (qaS (H k)) r := by
  intro k
  induction k with
  | zero =>
   intro C' _ _ _ ds i t hfc c Q hw s hat
   unfold qcL at hat
   split at hat
   ·rw [qfq h0] at hat; cases hat
   ·cases hat
  | succ k ih =>
   intro C' hC' hn' hm' ds i t hfc c Q hw s hat M1 φ1 a1 w1 hs1 hi1
   obtain ⟨n, e1, e2, e3⟩ := qfj hfc
   rw [Nat.zero_add] at e1
   subst e1
   rw [hC'] at e2
   obtain ⟨k1, k2⟩ := qe2 hck e2
   have hds : ds = t.dirs := qgR _ ds t.dirs rfl (e3.symm.trans k1)
   subst hds
   unfold qcL at hat
   split at hat
   ·rename_i ls' hdec
    obtain ⟨M2, φ2, hs2, hi2⟩ := qgS hdec (fun hp => k2 (hE hp)) hs1 hi1
    have hrun := qfr (hs k) e2 hat
    have ck := ih (C k) (hcuts k) (hnt k) (hM0 k)
    have hs3 : StR (C k) (qe t.vs q8 ls') M2 φ2 a1 w1 := hs2.cfg ((hnt k).trans hn'.symm) ((hM0 k).trans hm'.symm)
    unfold qdn at hrun
    obtain ⟨c', Q', K', w1', g1, f1⟩ := qfe (hT k) (hG k) hm ck t.dirs c0 [] 1 Q0 _ rfl wp0 (good (C k) (hT k)) hrun
    rw [List.nil_append] at w1' f1
    rw [hw] at w1'
    cases w1'
    have px : 2 * qD t.dirs 1 = qD (t.dirs ++ [false]) 1 := by rw [qau]; rfl
    cases c with
    | loop x =>
     simp only [qcD]
     have wx : qm P c0 (t.dirs ++ [false]) Q0 = some (x, Exit.then (qaN P x Q) Q) := by rw [qag hw]; simp only [qm]
     refine qaN.of ?_
     refine qaP ck px wx f1 (fun h3 => qaL (hT k) (hG k) hm ck x _ _ _ _ _ px wx h3 ?_) M2 φ2 a1 w1 hs3 hi2
     intro e s1 h4 M3 φ3 a3 w3 hs4 hi4
     cases e with
     | normal =>
      have h5 : qae (C k) (qaS (H k)) (qD t.dirs 1) (fun _ => none) s1 = some r := h4
      clear h4
      unfold qae at h5
      split at h5
      ·rename_i i t' hfc'
       exact ck t.dirs i t' hfc' _ Q hw s1 h5 M3 φ3 a3 w3 hs4 hi4
      ·cases h5
     | exit id => exact g1 (.exit id) s1 h4 M3 φ3 a3 w3 hs4 hi4
     | ret => exact g1 .ret s1 h4 M3 φ3 a3 w3 hs4 hi4
    | _ => exact qaL (hT k) (hG k) hm ck _ _ _ _ _ _ rfl hw f1 g1 M2 φ2 a1 w1 hs3 hi2
   ·cases hat
 have hrun : qeE (C k) S c0 fn.results.toList (qaS (H k)) ls = some r := by rw [qaF (he k) hlf]; exact hr
 refine calls_of_wp hf hbody ?_
 have hs0 : StR (C k) (Ent S ls) M φ { tmps := args ++ Array.replicate (fn.ntmps - args.size) undef, defers := [] } w := by
  refine ⟨hc.rel, fun i => ?_, by rw [hnt k]; simp; omega, rfl, hc.fresh, by rw [hM0 k]; exact hgl⟩
  by_cases hi : i < args.size
  ·have e : (args ++ Array.replicate (fn.ntmps - args.size) undef).getD i undef = args[i] := by
    rw [Array.getD_eq_getD_getElem?, Array.getElem?_append_left hi, Array.getElem?_eq_getElem hi]; rfl
   rw [e]
   exact hc.args i _ (Array.getElem?_eq_getElem hi)
  ·have e : qj (Ent S ls).t i = .dead := by
    unfold Ent
    rw [qao (fun q hq => by have h1 := (qex hq).2; have h2 := hc.size; simp only at h1 h2; omega)]
    rfl
   rw [e]
   exact qdV
 have hi0 : Inv E (Ent S ls) M φ w := ⟨Stp.refl M φ _ w, fun p hp => by
  simp only [E, base] at hp
  split at hp
  ·exact hp
  ·cases hp⟩
 exact qaL (hT k) (hG k) hm (cuts k (C k) (hcuts k) (hnt k) (hM0 k)) c0 [] 1 Q0 _ _ rfl wp0 hrun (good (C k) (hT k)) M φ _ w hs0 hi0
end
theorem qiG {P : Program} {l : List (Nat × TI)} (h : (l.all fun q => qdu P q.1 q.2) = true) : TOk P (qek l) := by
 induction l with
 | nil => intro t ti ht; cases ht
 | cons q r ih =>
  obtain ⟨j, v⟩ := q
  simp only [List.all_cons, Bool.and_eq_true] at h
  intro t ti ht
  simp only [qek] at ht
  cases hb : Nat.beq j t with
  | true =>
   rw [hb] at ht
   cases ht
   have := qu hb
   subst this
   exact h.1
  | false =>
   rw [hb] at ht
   exact ih h.2 t ti ht
def qb4 (P : Program) (M0 : Mem) (g : Nat) : List Fun → Prop
 | [] => True | F :: r => qR P M0 g F ∧ qb4 P M0 g r
def GOk (P : Program) (M0 : Mem) : List (Nat × List Fun) → Prop
 | [] => True | q :: r => qb4 P M0 q.1 q.2 ∧ GOk P M0 r
theorem qb4.get {P : Program} {M0 : Mem} {g : Nat} : ∀ {l : List Fun}, qb4 P M0 g l → ∀ F ∈ l, qR P M0 g F
 | [], _, _, h => by cases h
 | F :: r, h, F', hF => by
  rcases List.mem_cons.1 hF with rfl | hF
  ·exact h.1
  ·exact qb4.get h.2 F' hF
theorem GOk.get {P : Program} {M0 : Mem} : ∀ {l : List (Nat × List Fun)}, GOk P M0 l → ∀ g F, F ∈ qdb l g → qR P M0 g F
 | [], _, _, _, h => by cases h
 | (j, v) :: r, h, g, F, hF => by
  simp only [qdb] at hF
  cases hb : Nat.beq j g with
  | true =>
   rw [hb] at hF
   have := qu hb
   subst this
   exact h.1.get F hF
  | false =>
   rw [hb] at hF
   exact GOk.get h.2 g F hF
theorem qcb.of {S : Sig} (h : All (qo S.rs ++ S.wb) fun ls => ∀ r, app (qo S.rs ++ S.wb) S.mkR ls = some r → S.un r = ls) (wb : S.wb = qaA S.ps) (rs : S.rs.all qan = true) : qcb S :=
 ⟨fun ls r hr => qaF h (qas hr) r hr, wb, rs⟩
def qb0 (w : World) : Mem := fun b o => w.cell? ⟨b, o, none⟩
theorem qhg {B : Nat → Blk} {b o : Nat} : ¬ qK (fun _ => none) B b o := fun ⟨_, _, _, h, _⟩ => by cases h
theorem qiF {P : Program} {M0 : Mem} {f : Nat} {F : Fun} (ok : qR P M0 f F) {w : World} (h0 : Ext M0 (qb0 w)) {args : Array Value} {ls : List V} {r : F.S.R}
  (hs : args.size = F.S.ps.length) (ha : ∀ (i : Nat) (v : Value), args[i]? = some v → RV (qb0 w) (fun _ => none) v (qj (Ent F.S ls).t i))
  (hr : app (qo F.S.ps) F.f ls = some r) (hv : qaY (qg (Ent F.S ls).nx F.S.rs (F.S.un r)).1 = .bool true) :
  Calls P f args w fun e w' => e = .returned (.bool true) ∧ Below w.heap.size w w' := by
 have hrel : Rel (qb0 w) (fun _ => none) (qc (Ent F.S ls).O) w := by
  refine ⟨fun _ _ _ h => h, ?_, ?_, ?_⟩
  ·intro id p h; cases h
  ·intro id p h; cases h
  ·intro id id' p p' _ h; cases h
 refine (ok.call (qb0 w) (fun _ => none) w args ls r h0 ⟨hrel, hs, ha, fun _ _ => rfl⟩ hr).mono fun e w' h => ?_
 obtain ⟨v, he, _, M', φ', hrv, _, hst, _⟩ := h
 rw [hv] at hrv
 have hvb : v = .bool true := hrv
 subst hvb
 exact ⟨he, hst.kept.os, hst.kept.tape, hst.kept.output, hst.kept.size, fun k hk => hst.kept.block k hk fun _ => qhg⟩
abbrev Kd.T : Kd → Type | .i _ => Int | .b => Bool | .s => ByteArray | .is _ => List Int | .rw ks => List (Tp ks) | .fn _ => Unit | .nl => Unit | .np => Unit
abbrev qJ : List Kd → Bool
 | [] => false
 | .fn _ :: r => qJ r
 | .nl :: r => qJ r
 | .np :: r => qJ r
 | _ :: _ => true
abbrev cT (T U : Type) : Bool → Type | true => T × U | false => T
abbrev TR : List Kd → Type
 | [] => Unit
 | .fn _ :: r => TR r
 | .nl :: r => TR r
 | .np :: r => TR r
 | .i _ :: r => cT Int (TR r) (qJ r)
 | .b :: r => cT Bool (TR r) (qJ r)
 | .s :: r => cT ByteArray (TR r) (qJ r)
 | .is _ :: r => cT (List Int) (TR r) (qJ r)
 | .rw ks :: r => cT (List (Tp ks)) (TR r) (qJ r)
abbrev pk {T U : Type} (a : T) (b : U) : (c : Bool) → cT T U c | true => (a, b) | false => a
abbrev mkT {X : Type} : (ks : List Kd) → (TR ks → X) → Fn ks X
 | [], c => c ()
 | .fn _ :: r, c => mkT r c
 | .nl :: r, c => mkT r c
 | .np :: r, c => mkT r c
 | .i _ :: r, c => fun (n : Int) => mkT r fun t => c (pk n t (qJ r))
 | .b :: r, c => fun (n : Bool) => mkT r fun t => c (pk n t (qJ r))
 | .s :: r, c => fun (n : ByteArray) => mkT r fun t => c (pk n t (qJ r))
 | .is _ :: r, c => fun (n : List Int) => mkT r fun t => c (pk n t (qJ r))
 | .rw ks :: r, c => fun (n : List (Tp ks)) => mkT r fun t => c (pk n t (qJ r))
abbrev csT : List Kd → List V
 | [] => []
 | .fn g :: r => .fn g :: csT r
 | .nl :: r => .nili :: csT r
 | .np :: r => .nilp :: csT r
 | _ :: _ => []
abbrev un1 {T U : Type} (f : T → V) (g : U → List V) (d : List V) : (c : Bool) → cT T U c → List V | true, p => f p.1 :: g p.2 | false, a => f a :: d
abbrev unT : (ks : List Kd) → TR ks → List V
 | [], _ => []
 | .fn g :: r, t => .fn g :: unT r t
 | .nl :: r, t => .nili :: unT r t
 | .np :: r, t => .nilp :: unT r t
 | .i k :: r, t => un1 (fun n : Int => .int k n) (unT r) (csT r) (qJ r) t
 | .b :: r, t => un1 (fun n : Bool => .bool n) (unT r) (csT r) (qJ r) t
 | .s :: r, t => un1 (fun n : ByteArray => .str n) (unT r) (csT r) (qJ r) t
 | .is k :: r, t => un1 (fun n : List Int => .ints k n) (unT r) (csT r) (qJ r) t
 | .rw ks :: r, t => un1 (fun n : List (Tp ks) => .rows ks n) (unT r) (csT r) (qJ r) t
theorem qdx : ∀ {ks : List Kd} (t : TR ks), qJ ks = false → unT ks t = csT ks
 | [], _, _ => rfl
 | .fn g :: r, t, h => congrArg (V.fn g :: ·) (qdx (ks := r) t h)
 | .nl :: r, t, h => congrArg (V.nili :: ·) (qdx (ks := r) t h)
 | .np :: r, t, h => congrArg (V.nilp :: ·) (qdx (ks := r) t h)
 | .i _ :: _, _, h => by cases h
 | .b :: _, _, h => by cases h
 | .s :: _, _, h => by cases h
 | .is _ :: _, _, h => by cases h
 | .rw _ :: _, _, h => by cases h
theorem qcB {T : Type} (f : T → V) {r : List Kd} (a : T) (t : TR r) : ∀ c, qJ r = c → un1 f (unT r) (csT r) c (pk a t c) = f a :: unT r t
 | true, _ => rfl
 | false, h => congrArg (f a :: ·) (qdx t h).symm
theorem qdP {α : Type} {b : Bool} {x : Option α} {r : α} (h : bc b x none = some r) : b = true ∧ x = some r := by
 cases b with
 | true => exact ⟨rfl, h⟩
 | false => cases h
theorem qbi {R : Type} : ∀ (ks : List Kd) (c : TR ks → Option R) (ls : List V) (x : R), app ks (mkT ks c) ls = some x → ∃ t, c t = some x ∧ unT ks t = ls
 | [], c, [], x, h => ⟨(), h, rfl⟩
 | [], c, _ :: _, x, h => by cases h
 | _ :: _, c, [], x, h => by unfold app at h; split at h <;> simp_all
 | .fn g :: r, c, v :: l, x, h => by
  cases v with
  | fn g' =>
   obtain ⟨hb, h'⟩ := qdP (b := Nat.beq g g') h
   obtain rfl := qu hb
   obtain ⟨t, h1, h2⟩ := qbi r c l x h'
   exact ⟨t, h1, congrArg (V.fn g :: ·) h2⟩
  | _ => cases h
 | .nl :: r, c, v :: l, x, h => by
  cases v with
  | nili =>
   obtain ⟨t, h1, h2⟩ := qbi r c l x h
   exact ⟨t, h1, congrArg (V.nili :: ·) h2⟩
  | _ => cases h
 | .np :: r, c, v :: l, x, h => by
  cases v with
  | nilp =>
   obtain ⟨t, h1, h2⟩ := qbi r c l x h
   exact ⟨t, h1, congrArg (V.nilp :: ·) h2⟩
  | _ => cases h
 | .i k :: r, c, v :: l, x, h => by
  cases v with
  | int k' n =>
   obtain ⟨hb, h'⟩ := qdP (b := qv k k') h
   obtain rfl := qE hb
   obtain ⟨t, h1, h2⟩ := qbi r (fun t => c (pk n t (qJ r))) l x h'
   exact ⟨pk n t (qJ r), h1, (qcB _ n t _ rfl).trans (congrArg (V.int k n :: ·) h2)⟩
  | _ => cases h
 | .b :: r, c, v :: l, x, h => by
  cases v with
  | bool n =>
   obtain ⟨t, h1, h2⟩ := qbi r (fun t => c (pk n t (qJ r))) l x h
   exact ⟨pk n t (qJ r), h1, (qcB _ n t _ rfl).trans (congrArg (V.bool n :: ·) h2)⟩
  | _ => cases h
 | .s :: r, c, v :: l, x, h => by
  cases v with
  | str n =>
   obtain ⟨t, h1, h2⟩ := qbi r (fun t => c (pk n t (qJ r))) l x h
   exact ⟨pk n t (qJ r), h1, (qcB _ n t _ rfl).trans (congrArg (V.str n :: ·) h2)⟩
  | _ => cases h
 | .is k :: r, c, v :: l, x, h => by
  cases v with
  | ints k' n =>
   obtain ⟨hb, h'⟩ := qdP (b := qv k k') h
   obtain rfl := qE hb
   obtain ⟨t, h1, h2⟩ := qbi r (fun t => c (pk n t (qJ r))) l x h'
   exact ⟨pk n t (qJ r), h1, (qcB _ n t _ rfl).trans (congrArg (V.ints k n :: ·) h2)⟩
  | _ => cases h
 | .rw ks :: r, c, v :: l, x, h => by
  cases v with
  | rows ks' n =>
   change (if h : ks' = ks then app r (mkT r fun t => c (pk (h ▸ n) t (qJ r))) l else none) = some x at h
   by_cases hk : ks' = ks
   ·subst hk
    rw [dif_pos rfl] at h
    obtain ⟨t, h1, h2⟩ := qbi r (fun t => c (pk n t (qJ r))) l x h
    exact ⟨pk n t (qJ r), h1, (qcB _ n t _ rfl).trans (congrArg (V.rows ks' n :: ·) h2)⟩
   ·rw [dif_neg hk] at h; cases h
  | _ => cases h
abbrev sg (ps rs : List Kx) : Sig := { ps, rs, wb := qaA ps, R := TR (qo rs ++ qaA ps), mkR := mkT _ some, un := unT _ }
theorem qib {ps rs : List Kx} (h : rs.all qan = true) : qcb (sg ps rs) where
 un ls r e := by
  obtain ⟨t, h1, h2⟩ := qbi _ _ _ _ e
  cases h1; exact h2
 wb := rfl
 rs := h
theorem qfs (k : IntKind) : qv k k = true := by cases k <;> rfl
def qV {R : Type} : (ks : List Kd) → (List V → R → Prop) → Fn ks R → Prop
 | [], P, f => P [] f
 | .i k :: r, P, f => ∀ n : Int, qV r (fun l y => P (.int k n :: l) y) (f n)
 | .b :: r, P, f => ∀ n : Bool, qV r (fun l y => P (.bool n :: l) y) (f n)
 | .s :: r, P, f => ∀ n : ByteArray, qV r (fun l y => P (.str n :: l) y) (f n)
 | .is k :: r, P, f => ∀ n : List Int, qV r (fun l y => P (.ints k n :: l) y) (f n)
 | .rw ks :: r, P, f => ∀ n : List (Tp ks), qV r (fun l y => P (.rows ks n :: l) y) (f n)
 | .fn g :: r, P, f => qV r (fun l y => P (.fn g :: l) y) f
 | .nl :: r, P, f => qV r (fun l y => P (.nili :: l) y) f
 | .np :: r, P, f => qV r (fun l y => P (.nilp :: l) y) f
theorem qdQ {α : Type} {b : Bool} (h : b = true) (x y : α) : bc b x y = x := by subst h; rfl
theorem qaJ : ∀ {ks : List Kd} {P Q : List V → Prop}, (∀ l, P l = Q l) → All ks P → All ks Q
 | [], P, Q, h, a => by have := h []; unfold All at *; rwa [← this]
 | .i k :: r, P, Q, h, a => fun n => qaJ (ks := r) (fun l => h (.int k n :: l)) (a n)
 | .b :: r, P, Q, h, a => fun n => qaJ (ks := r) (fun l => h (.bool n :: l)) (a n)
 | .s :: r, P, Q, h, a => fun n => qaJ (ks := r) (fun l => h (.str n :: l)) (a n)
 | .is k :: r, P, Q, h, a => fun n => qaJ (ks := r) (fun l => h (.ints k n :: l)) (a n)
 | .rw ks :: r, P, Q, h, a => fun n => qaJ (ks := r) (fun l => h (.rows ks n :: l)) (a n)
 | .fn g :: r, P, Q, h, a => qaJ (ks := r) (fun l => h (.fn g :: l)) a
 | .nl :: r, P, Q, h, a => qaJ (ks := r) (fun l => h (.nili :: l)) a
 | .np :: r, P, Q, h, a => qaJ (ks := r) (fun l => h (.nilp :: l)) a
theorem qV.all {R : Type} : ∀ {ks : List Kd} {P : List V → Option R → Prop} {f : Fn ks (Option R)}, qV ks P f → All ks fun ls => P ls (app ks f ls)
 | [], P, f, h => h
 | .i k :: r, P, f, h => fun n => qaJ (fun l => by
   have e : app (.i k :: r) f (.int k n :: l) = app r (f n) l := qdQ (qfs k) _ _
   exact congrArg (P _) e.symm) (qV.all (h n))
 | .b :: r, P, f, h => fun n => qV.all (ks := r) (h n)
 | .s :: r, P, f, h => fun n => qV.all (ks := r) (h n)
 | .is k :: r, P, f, h => fun n => qaJ (fun l => by
   have e : app (.is k :: r) f (.ints k n :: l) = app r (f n) l := qdQ (qfs k) _ _
   exact congrArg (P _) e.symm) (qV.all (h n))
 | .rw ks :: r, P, f, h => fun n => qaJ (fun l => by
   have e : app (.rw ks :: r) f (.rows ks n :: l) = app r (f n) l := dif_pos rfl
   exact congrArg (P _) e.symm) (qV.all (h n))
 | .fn g :: r, P, f, h => qaJ (ks := r) (fun l => by
   have e : app (.fn g :: r) f (.fn g :: l) = app r f l := qdQ (Nat.beq_refl g) _ _
   exact congrArg (P _) e.symm) (qV.all (ks := r) (P := fun l y => P (.fn g :: l) y) h)
 | .nl :: r, P, f, h => qV.all (ks := r) h
 | .np :: r, P, f, h => qV.all (ks := r) h
def qb5 {R : Type} : List (qaI R) → Prop
 | [] => True
 | c :: r => qV (qo (c.vs.map (·.2))) (fun _ y => y = none) c.f ∧ qb5 r
theorem qb5.none {R : Type} : ∀ {L : List (qaI R)}, qb5 L → qcG L
 | [], _ => trivial
 | c :: r, h => ⟨h.1.all, qb5.none h.2⟩
def qcc (C : Cfg) (S : Sig) (c : Code) (rs : List ResultVar) (H : Hd S.R) : List Cut → List (qaI S.R) → Prop
 | [], [] => True
 | t :: ts, f :: fs => t.vs = f.vs ∧ qV (qo (f.vs.map (·.2))) (fun ls y => qdn C S c rs H t ls = y) f.f ∧ qcc C S c rs H ts fs
 | _, _ => False
theorem qcc.step {C : Cfg} {S : Sig} {c : Code} {rs : List ResultVar} {H : Hd S.R} : ∀ {T : List Cut} {L : List (qaI S.R)}, qcc C S c rs H T L → qcJ C S c rs H T L
 | [], [], _ => trivial
 | t :: ts, f :: fs, h => ⟨h.1, h.2.1.all, qcc.step h.2.2⟩
 | [], _ :: _, h => h.elim
 | _ :: _, [], h => h.elim
inductive GP (P : Program) (M0 : Mem) : (Nat → List (Nat × List Fun)) → Prop
 | z : GP P M0 fun _ => []
 | o {g : Nat} {F : Nat → Fun} {G : Nat → List (Nat × List Fun)} : (∀ k, qR P M0 g (F k)) → GP P M0 G → GP P M0 fun k => (g, [F k]) :: G k
 | t {g : Nat} {F F' : Nat → Fun} {G : Nat → List (Nat × List Fun)} : (∀ k, qR P M0 g (F k)) → (∀ k, qR P M0 g (F' k)) → GP P M0 G → GP P M0 fun k => (g, [F k, F' k]) :: G k
theorem GP.ok {P : Program} {M0 : Mem} {G : Nat → List (Nat × List Fun)} (h : GP P M0 G) (k : Nat) : GOk P M0 (G k) := by
 induction h with
 | z => exact trivial
 | o h _ ih => exact ⟨⟨h k, trivial⟩, ih⟩
 | t h h' _ ih => exact ⟨⟨h k, h' k, trivial⟩, ih⟩
def zc {R : Type} : List (List Bool) → List (qaI R) → List Cut
 | d :: ds, h :: hs => ⟨qD d 1, d, h.vs⟩ :: zc ds hs
 | _, _ => []
def mkC (T : Nat → Option TI) (M0 : Mem) (G : Nat → List (Nat × List Fun)) (nt : Nat) (cuts : List Cut) (frz : List Nat) (k : Nat) : Cfg := { T, G := qdb (G k), nt, cuts, frz, M0 }
abbrev tt := true
abbrev ff := false
theorem qR.mk' {P : Program} {M0 : Mem} {T : Nat → Option TI} (hT : TOk P T) (hm : P.follows .mixedOrders = true) {n : Nat} {ps rs : List Kx} {f : Nat → Fn (qo ps) (Option (sg ps rs).R)} {G : Nat → List (Nat × List Fun)} {fn : Func}
  (nt : Nat) (hf : P.funcs[n]? = some fn) (gs : GP P M0 G) (ds : List (List Bool)) (H : Nat → List (qaI (sg ps rs).R)) (frz : List Nat)
  (hname : (fn.name == "runtime.NumGoroutine") = false) (hbody : fn.body = some (qdS fn)) (hnt : nt = fn.ntmps) (hr : rs.all qan = true) (hck : qch (qaV (sg ps rs)) (zc ds (H 0)) = true) (h0 : qb5 (H 0))
  (hs : ∀ k, qcc (mkC T M0 G nt (zc ds (H 0)) frz k) (sg ps rs) (qdS fn) fn.results.toList (qaS (H k)) (zc ds (H 0)) (H (k + 1)))
  (he : ∀ k, qV (qo ps) (fun ls y => qeE (mkC T M0 G nt (zc ds (H 0)) frz k) (sg ps rs) (qdS fn) fn.results.toList (qaS (H k)) ls = y) (f k)) :
  ∀ k, qR P M0 n ⟨sg ps rs, f k⟩ :=
 qR.of (C := mkC T M0 G nt (zc ds (H 0)) frz) (H := H) (f := f) (S := sg ps rs) hf hname hbody hm (fun _ => hT) (qib hr) (fun _ => hnt) (fun _ => rfl) (fun _ => rfl) hck h0.none (fun k => (hs k).step) (fun k => (he k).all) (fun k => GOk.get (gs.ok k))
def qbj : V → Value | .int k n => .int k n | .bool b => .bool b | .str s => .string s | .nili => .nilIface | _ => undef
def qa4 : Kx → Bool | .lf (.i _) => true | .lf .b => true | .lf .s => true | .lf .nl => true | _ => false
def qh2 : List V → Value | [v] => qbj v | l => .tuple (l.map qbj).toArray
def qeq (l : List V) : Prop := ∀ k n, V.int k n ∈ l → inr k n
theorem qe7 : ∀ {ps : List Kx} {n : Nat} {s : St} {ls : List V}, ps.all qa4 = true → qd (qo ps) ls = true →
  (qe (qS n ps) s ls).O = s.O ∧ (qe (qS n ps) s ls).nx = s.nx ∧ ls.length = ps.length ∧ ∀ (i : Nat) v, ls[i]? = some v → qj (qe (qS n ps) s ls).t (n + i) = v
 | [], n, s, [], _, _ => by rw [qS, qcj]; exact ⟨rfl, rfl, rfl, fun i v h => by simp at h⟩
 | [], n, s, _ :: _, _, h => by cases h
 | k :: ps, n, s, ls, hp, h => by
  simp only [List.all_cons, Bool.and_eq_true] at hp
  obtain ⟨kd, rfl⟩ : ∃ kd, k = .lf kd := by
   cases k <;> first | exact ⟨_, rfl⟩ | cases hp.1
  cases ls with
  | nil => cases h
  | cons v l =>
   have h2 : qd (qo ps) l = true := by
    simp only [qo, qA, List.cons_append, List.nil_append, qd, Bool.and_eq_true] at h
    exact h.2
   have e : qe (qS n (.lf kd :: ps)) s (v :: l) = qe (qS (n + 1) ps) { s with t := (n, v) :: s.t } l := rfl
   obtain ⟨i1, i2, i3, i4⟩ := qe7 (n := n + 1) (s := { s with t := (n, v) :: s.t }) hp.2 h2
   rw [e]
   refine ⟨i1, i2, by simp [i3], fun i u hu => ?_⟩
   cases i with
   | zero =>
    simp at hu
    subst hu
    rw [qao (fun q hq => by have := (qex hq).1; omega), q9, if_pos (Nat.add_zero n)]
   | succ i =>
    have := i4 i u (by simpa using hu)
    rwa [show n + 1 + i = n + (i + 1) by omega] at this
theorem qhb {kd : Kd} {y : V} {M : Mem} {φ : Plc} {v : Value} (hk : qa4 (.lf kd) = true) (h : qF kd y = true) (hv : RV M φ v y) : v = qbj y ∧ ∀ k n, y = .int k n → inr k n := by
 cases kd <;> first | (cases hk; done) | skip
 all_goals cases y <;> first | (cases h; done) | skip
 ·obtain ⟨h1, h2⟩ := hv; exact ⟨h1, fun k n e => by cases e; exact h2⟩
 ·exact ⟨hv, fun k n e => by cases e⟩
 ·exact ⟨hv, fun k n e => by cases e⟩
 ·exact ⟨hv, fun k n e => by cases e⟩
theorem qir {kd : Kd} {y : V} {M : Mem} {φ : Plc} (hk : qa4 (.lf kd) = true) (h : qF kd y = true) (hi : ∀ k n, y = .int k n → inr k n) : RV M φ (qbj y) y ∧ qaT y = false := by
 cases kd <;> first | (cases hk; done) | skip
 all_goals cases y <;> first | (cases h; done) | skip
 ·exact ⟨⟨rfl, hi _ _ rfl⟩, rfl⟩
 ·exact ⟨rfl, rfl⟩
 ·exact ⟨rfl, rfl⟩
 ·exact ⟨rfl, rfl⟩
theorem qeF : ∀ {ps : List Kx} {ls : List V}, ps.all qa4 = true → qd (qo ps) ls = true → ∀ (i : Nat) y, ls[i]? = some y → ∃ kd, qa4 (.lf kd) = true ∧ qF kd y = true
 | [], [], _, _, i, y, h => by simp at h
 | [], _ :: _, _, h, _, _, _ => by cases h
 | k :: ps, ls, hp, h, i, y, hy => by
  simp only [List.all_cons, Bool.and_eq_true] at hp
  obtain ⟨kd, rfl⟩ : ∃ kd, k = .lf kd := by
   cases k <;> first | exact ⟨_, rfl⟩ | cases hp.1
  cases ls with
  | nil => cases h
  | cons v l =>
   simp only [qo, qA, List.cons_append, List.nil_append, qd, Bool.and_eq_true] at h
   cases i with
   | zero => simp at hy; subst hy; exact ⟨kd, hp.1, h.1⟩
   | succ i => exact qeF hp.2 h.2 i y (by simpa using hy)
theorem qeu {nx : Nat} : ∀ {rs : List Kx} {l : List V}, rs.all qa4 = true → qd (qo rs) l = true → qg nx rs l = (l, [], [])
 | [], [], _, _ => rfl
 | [], _ :: _, _, h => by cases h
 | k :: rs, l, hp, h => by
  simp only [List.all_cons, Bool.and_eq_true] at hp
  obtain ⟨kd, rfl⟩ : ∃ kd, k = .lf kd := by
   cases k <;> first | exact ⟨_, rfl⟩ | cases hp.1
  cases l with
  | nil => cases h
  | cons v l =>
   simp only [qo, qA, List.cons_append, List.nil_append, qd, Bool.and_eq_true] at h
   have := qeu (nx := nx) hp.2 h.2
   simp [qg, this]
theorem qeg : ∀ {ps : List Kx}, ps.all qa4 = true → qY ps [] = [] ∧ qaA ps = []
 | [], _ => ⟨rfl, rfl⟩
 | k :: ps, hp => by
  simp only [List.all_cons, Bool.and_eq_true] at hp
  obtain ⟨kd, rfl⟩ : ∃ kd, k = .lf kd := by
   cases k <;> first | exact ⟨_, rfl⟩ | cases hp.1
  exact qeg (ps := ps) hp.2
theorem qf3 : ∀ {ps : List Kx}, ps.all qa4 = true → ps.all qan = true
 | [], _ => rfl
 | k :: ps, hp => by
  simp only [List.all_cons, Bool.and_eq_true] at hp ⊢
  refine ⟨?_, qf3 hp.2⟩
  obtain ⟨kd, rfl⟩ : ∃ kd, k = .lf kd := by
   cases k <;> first | exact ⟨_, rfl⟩ | cases hp.1
  rfl
theorem qR.lib {P : Program} {M0 : Mem} {f : Nat} {F : Fun} (hfn : ∃ fn c, P.funcs[f]? = some fn ∧ (fn.name == "runtime.NumGoroutine") = false ∧ fn.body = some c)
  (hwb : F.S.wb = []) (hps : F.S.ps.all qa4 = true) (hrs : F.S.rs.all qa4 = true) (hun : ∀ r, qd (qo F.S.rs) (F.S.un r) = true)
  (h : ∀ w ls r, qdG M0 w → qd (qo F.S.ps) ls = true → qeq ls → app (qo F.S.ps) F.f ls = some r →
   qeq (F.S.un r) ∧ Calls P f (ls.map qbj).toArray w fun e w' => e = .returned (qh2 (F.S.un r)) ∧ qt w w') : qR P M0 f F := by
 refine ⟨hfn, by rw [hwb, (qeg hps).2], qf3 hrs, fun M φ w args ls r hgl hc hr => ?_⟩
 have hlf := qas hr
 obtain ⟨e1, e2, e3, e4⟩ := qe7 (n := 0) (s := q8) hps hlf
 have hent : Ent F.S ls = qe (qS 0 F.S.ps) q8 ls := rfl
 have hO : (Ent F.S ls).O = [] := e1
 have hsz : args.size = ls.length := by rw [hc.size, e3]
 have hval : ∀ (i : Nat) (hi : i < ls.length), args[i]? = some (qbj ls[i]) ∧ ∀ k n, ls[i] = .int k n → inr k n := fun i hi => by
  have ha : args[i]? = some (args[i]'(by omega)) := Array.getElem?_eq_getElem _
  have hv := hc.args i _ ha
  have hl := e4 i _ (List.getElem?_eq_getElem hi)
  rw [Nat.zero_add] at hl
  rw [hent, hl] at hv
  obtain ⟨kd, h1, h2⟩ := qeF hps hlf i _ (List.getElem?_eq_getElem hi)
  obtain ⟨h3, h4⟩ := qhb h1 h2 hv
  exact ⟨by rw [ha, h3], h4⟩
 have hargs : args = (ls.map qbj).toArray := by
  apply Array.ext
  ·simp [hsz]
  ·intro i h1 h2
   have := (hval i (by omega)).1
   rw [Array.getElem?_eq_getElem h1] at this
   simpa using Option.some.inj this
 have hok : qeq ls := fun k n hm => by
  obtain ⟨i, hi, he⟩ := List.getElem_of_mem hm
  exact (hval i hi).2 k n he
 obtain ⟨hur, hcall⟩ := h w ls r (fun b o v hv => hc.rel.holds b o v (hgl b o v hv)) hlf hok hr
 rw [hargs]
 refine hcall.mono fun e w' ⟨he, hg⟩ => ⟨_, he, by rw [hwb, List.append_nil]; exact hun r, M, φ, ?_, ?_, ?_, qr.refl φ⟩
 ·rw [qeu hrs (hun r)]
  simp only
  have hget : ∀ (j : Nat) y, (F.S.un r)[j]? = some y → RV M φ (qbj y) y ∧ qaT y = false := fun j y hy => by
   obtain ⟨kd, h1, h2⟩ := qeF hrs (hun r) j y hy
   exact qir h1 h2 fun k n e => hur k n (e ▸ List.mem_of_getElem? hy)
  match hl : F.S.un r, hget with
  | [y], hget => exact (hget 0 y rfl).1
  | [], _ => exact ⟨_, rfl, rfl, fun j y hy => by simp at hy⟩
  | y :: z :: l, hget =>
   refine ⟨_, rfl, by simp, fun j x hx => ⟨qbj x, by simp only [List.getElem?_toArray, List.getElem?_map, hx]; rfl, ?_⟩⟩
   obtain ⟨h1, h2⟩ := hget j x hx
   rw [qeQ h2] at h1
   rw [qbP h2]
   exact h1
 all_goals
  have hB : qaf F.S (Ent F.S ls).nx r = fun _ => .gone := by
   unfold qaf
   rw [qeu hrs (hun r)]
   simp only [qaj, List.nil_append, (qeg hps).1]
   rfl
  have hB0 : qc (Ent F.S ls).O = fun _ => .gone := by rw [hO]; rfl
  rw [hB]
 ·have := hc.rel.grew hg
  rwa [hB0] at this
 ·rw [hB0]
  exact ⟨Ext.refl M, hg.kp _, fun _ _ h => .inl h, fun _ _ _ h => .inl h⟩
theorem qiA {w w' : World} (h : Below w.heap.size w w') : qt w w' := ⟨h.os, h.tape, h.output, h.size, h.block⟩
theorem qiB (w : World) (n : Nat) : qt w (w.drewN n) := ⟨rfl, rfl, rfl, Nat.le_refl _, fun _ _ => rfl⟩
theorem qiC {w w' : World} (h : qt w w') (os : Array Obj) : qt w (Go.Sort.grow w' os) :=
 ⟨h.os, h.tape, h.output, by have := h.size; simp only [Go.Sort.grow, Array.size_append]; omega, fun k hk => by
  have := h.size
  simp only [Go.Sort.grow]
  rw [Array.getElem?_append_left (by omega)]
  exact h.block k hk⟩
open Go.ChangeShapes Go.WideShapes Go.RowKit
def qdh (P : Program) (t : Nat) (k l : IntKind) : Bool := match P.underlying t with
 | some (.struct fs) => (match fs.toList with
  | [f, g] => f.offset == 0 && g.offset == 1 && P.cellsOf f.type == 1 && P.cellsOf g.type == 1 && P.cellsOf t == 2 && (match P.underlying f.type with | some (.int k') => qv k' k | _ => false) && (match P.underlying g.type with | some (.int k') => qv k' l | _ => false)
  | _ => false)
 | _ => false
theorem qfT {P : Program} {t : Nat} {k l : IntKind} (h : qdh P t k l = true) : ∃ f g : Field, P.underlying t = some (.struct #[f, g]) ∧ f.offset = 0 ∧ g.offset = 1 ∧ P.cellsOf f.type = 1 ∧ P.cellsOf g.type = 1 ∧ P.cellsOf t = 2 ∧ P.underlying f.type = some (.int k) ∧ P.underlying g.type = some (.int l) := by
 unfold qdh at h
 split at h
 ·rename_i fs hu
  split at h
  ·rename_i f g hfs
   simp only [Bool.and_eq_true, beq_iff_eq] at h
   obtain ⟨⟨⟨⟨⟨⟨h1, h2⟩, h3⟩, h4⟩, h5⟩, h6⟩, h7⟩ := h
   have hf : fs = #[f, g] := by cases fs; simp_all
   subst hf
   split at h6
   ·rename_i k' hk
    split at h7
    ·rename_i l' hl
     exact ⟨f, g, hu, h1, h2, h3, h4, h5, by rw [hk, qE h6], by rw [hl, qE h7]⟩
    ·cases h7
   ·cases h6
  ·cases h
 ·cases h
section
variable {H : Type} {enc : TypeId × Value → H} {P : Program} {w : World} {base : Nat} {spare : Nat → Bool} {held : Bool}
theorem qiI {r : Reach} {b0 : Nat} {t : Nat} {k l : IntKind} {v : Value} {d : DataW H} {ps : List MemPlace} (h : qdh P t k l = true) (hval : Value.okWide P w r b0 t v) (hd : DataW.Trod enc P w base spare held t v d ps) :
  ∃ a b, v = .agg #[.int k a, .int l b] ∧ d = .agg [.lit (.int k a), .lit (.int l b)] ∧ ps = [] ∧ (Lit.int k a).wf = true ∧ (Lit.int l b).wf = true := by
 obtain ⟨f, g, hu, h1, h2, h3, h4, h5, h6, h7⟩ := qfT h
 obtain ⟨cs, rfl, hsz⟩ := okWide_struct hu hval
 obtain ⟨fuel, hf⟩ := hd
 obtain ⟨y0, y1, n, hx, hl, g0, g1⟩ := trod_struct2 hu hf
 rw [h1, h3] at g0
 rw [h2, h4] at g1
 obtain ⟨a, e0, z0, w0⟩ := DataW.trod_int h6 g0
 obtain ⟨b, e1, z1, w1⟩ := DataW.trod_int h7 g1
 rw [h5] at hl
 have e0 : (cs.toList.drop 0).take 1 = [.int k a] := e0
 have e1 : (cs.toList.drop 1).take 1 = [.int l b] := e1
 have hl' : cs.toList.length = 2 := hl
 have hcs : cs.toList = [.int k a, .int l b] := by
  match hh : cs.toList, hl' with
  | [x, y], _ =>
   rw [hh] at e0 e1
   simp at e0 e1
   rw [e0, e1]
 refine ⟨a, b, by cases cs; simp_all, ?_, ?_, w0, w1⟩
 ·have := congrArg Prod.fst hx
  rw [z0, z1] at this
  exact this
 ·have := congrArg Prod.snd hx
  rw [z0, z1] at this
  exact this
theorem qiL {t : Nat} {k l : IntKind} {a b : Int} (h : qdh P t k l = true) (wa : (Lit.int k a).wf = true) (wb : (Lit.int l b).wf = true) :
  DataW.Trod enc P w base spare held t (.agg #[.int k a, .int l b]) (.agg [.lit (.int k a), .lit (.int l b)]) [] := by
 obtain ⟨f, g, hu, h1, h2, h3, h4, h5, h6, h7⟩ := qfT h
 refine ⟨2, ?_⟩
 have := trod_struct2_mk (enc := enc) (w := w) (base := base) (spare := spare) (held := held) (n := 1) (cs := [.int k a, .int l b]) (y0 := (.lit (.int k a), [])) (y1 := (.lit (.int l b), [])) hu (by rw [h5]; rfl) (by rw [h1, h3]; exact trod_int_mk 0 h6 wa) (by rw [h2, h4]; exact trod_int_mk 0 h7 wb)
 exact this
theorem qiw {M : Mem} {φ : Plc} {k l : IntKind} {a b : Int} (ha : inr k a) (hb : inr l b) : RV M φ (.agg #[.int k a, .int l b]) (.agg [.int k a, .int l b]) := by
 refine ⟨_, rfl, rfl, fun j y hj => ?_⟩
 rcases j with _ | _ | j
 ·obtain rfl := Option.some.inj hj
  exact ⟨_, rfl, rfl, ha⟩
 ·obtain rfl := Option.some.inj hj
  exact ⟨_, rfl, rfl, hb⟩
 ·cases hj
end
open Go.ChangeShapes Go.WideShapes Go.RowKit Go.Deep
def qbW (P : Program) (u : TypeId) : Bool := match P.underlying u with | some (.slice _) => true | _ => false
def qa9 (P : Program) (t : Nat) : Bool := match P.underlying t with
 | some (.struct fs) => (match fs.toList with
  | [f, g, h] => f.offset == 0 && g.offset == 1 && h.offset == 2 && P.cellsOf f.type == 1 && P.cellsOf g.type == 1 && P.cellsOf h.type == 1 && P.cellsOf t == 3 && (match P.underlying f.type with | some .bool => true | _ => false) && (match P.underlying h.type with | some (.int k) => qv k .i64 | _ => false) && (match P.underlying g.type with | some (.slice e) => P.cellsOf e == 1 && P.bytesOf e == 4 && (match P.underlying e with | some (.int k) => qv k .u32 | _ => false) | _ => false)
  | _ => false)
 | _ => false
theorem qgT {P : Program} {t : Nat} (h : qa9 P t = true) : ∃ (f g k : Field) (e : TypeId), P.underlying t = some (.struct #[f, g, k]) ∧ f.offset = 0 ∧ g.offset = 1 ∧ k.offset = 2 ∧ P.cellsOf f.type = 1 ∧ P.cellsOf g.type = 1 ∧ P.cellsOf k.type = 1 ∧ P.cellsOf t = 3 ∧ P.underlying f.type = some .bool ∧ P.underlying k.type = some (.int .i64) ∧ P.underlying g.type = some (.slice e) ∧ P.cellsOf e = 1 ∧ P.bytesOf e = 4 ∧ P.underlying e = some (.int .u32) := by
 unfold qa9 at h
 split at h
 ·rename_i fs hu
  split at h
  ·rename_i f g k hfs
   simp only [Bool.and_eq_true, beq_iff_eq] at h
   obtain ⟨⟨⟨⟨⟨⟨⟨⟨⟨h1, h2⟩, h3⟩, h4⟩, h5⟩, h6⟩, h7⟩, h8⟩, h9⟩, h10⟩ := h
   have hf : fs = #[f, g, k] := by cases fs; simp_all
   subst hf
   split at h8
   ·rename_i hb
    split at h9
    ·rename_i kk hk
     split at h10
     ·rename_i e he
      simp only [Bool.and_eq_true, beq_iff_eq] at h10
      obtain ⟨⟨q1, q2⟩, q3⟩ := h10
      split at q3
      ·rename_i k' hk'
       exact ⟨f, g, k, e, hu, h1, h2, h3, h4, h5, h6, h7, hb, by rw [hk, qE h9], he, q1, q2, by rw [hk', qE q3]⟩
      ·cases q3
     ·cases h10
    ·cases h9
   ·cases h8
  ·cases h
 ·cases h
section
variable {H : Type} {enc : TypeId × Value → H} {P : Program} {w : World} {base : Nat} {spare : Nat → Bool} {held : Bool}
def SlR (w : World) (s : Value) (N : List Nat) : Prop :=
 s = .slice none 0 0 ∨ ∃ (a : Addr) (len cap : Nat) (zs : List Int), s = .slice (some a) len cap ∧ len ≤ cap ∧ len ≤ zs.length ∧ (∀ i, i < zs.length → w.cell? (a.add i) = some (.int .u32 (zs.getD i 0))) ∧ (∀ n ∈ zs, (Lit.int .u32 n).wf = true) ∧ ∃ n ∈ N, len * 4 ≤ n
theorem qdY {t : Nat} (h : qa9 P t = true) {fuel : Nat} {cs : List Value} {x : DataW H × List MemPlace} (hd : DataW.trod enc P w base spare held fuel t cs = some x) :
  ∃ (b : Bool) (e : Int) (s : Value), cs = [.bool b, s, .int .i64 e] ∧ (Lit.int .i64 e).wf = true ∧ SlR w s (x.1.weights P t) := by
 obtain ⟨f, g, k, e, hu, h1, h2, h3, h4, h5, h6, h7, h8, h9, h10, h11, h12, h13⟩ := qgT h
 obtain ⟨y0, y1, y2, n, rfl, hl, g0, g1, g2⟩ := trod_struct3 hu hd
 rw [h1, h4] at g0
 rw [h2, h5] at g1
 rw [h3, h6] at g2
 rw [h7] at hl
 match cs, hl with
 | [c0, c1, c2], _ =>
  have g0 : DataW.trod enc P w base spare held n f.type [c0] = some y0 := g0
  have g1 : DataW.trod enc P w base spare held n g.type [c1] = some y1 := g1
  have g2 : DataW.trod enc P w base spare held n k.type [c2] = some y2 := g2
  obtain ⟨b, e0, z0⟩ := DataW.trod_bool h8 g0
  obtain ⟨m, e2, z2, w2⟩ := DataW.trod_int h9 g2
  cases e0
  cases e2
  refine ⟨b, m, c1, rfl, w2, ?_⟩
  rcases open_ints h10 h13 h11 g1 with ⟨e1, z1⟩ | ⟨a, len, cap, zs, e1, _, hle, _, hz, z1, hcell, hw⟩
  ·cases e1
   exact .inl rfl
  ·cases e1
   have hzl : len ≤ zs.length := by
    rw [hz]
    split
    ·exact hle
    ·exact Nat.le_refl _
   refine .inr ⟨a, len, cap, zs, rfl, hle, hzl, hcell, hw, zs.length * 4, ?_, Nat.mul_le_mul_right 4 hzl⟩
   have e5 : y1.1 = .slice (lits .u32 (zs.take len)) (lits .u32 (zs.drop len)) := by rw [z1]
   have e6 : (lits (H := H) .u32 (zs.take len)).length + (lits (H := H) .u32 (zs.drop len)).length = zs.length := by
    simp [lits]
    omega
   have hm : zs.length * 4 ∈ y1.1.weights P g.type := by
    rw [e5]
    simp only [DataW.weights, h10, e6, h12]
    exact List.mem_cons_self
   have hmem := DataW.weights_mem_each (P := P) (ts := [f.type, g.type, k.type]) (ds := [y0.1, y1.1, y2.1]) (j := 1) rfl rfl _ hm
   simp only [DataW.weights, hu]
   exact hmem
def qd3 (P : Program) (t : Nat) : Bool := match P.underlying t with
 | some (.struct fs) => (match fs.toList with
  | [f, g, h] => f.offset == 0 && g.offset == 3 && h.offset == 6 && P.cellsOf f.type == 3 && P.cellsOf g.type == 3 && P.cellsOf h.type == 3 && P.cellsOf t == 9 && qa9 P f.type && qa9 P g.type && qa9 P h.type
  | _ => false) && (match P.cellTypes P.depth t with
  | some [_, u1, _, _, u4, _, _, u7, _] => qbW P u1 && qbW P u4 && qbW P u7
  | _ => false)
 | _ => false
theorem qgW {t : Nat} (h : qd3 P t = true) : ∃ f g k : Field, P.underlying t = some (.struct #[f, g, k]) ∧ f.offset = 0 ∧ g.offset = 3 ∧ k.offset = 6 ∧ P.cellsOf f.type = 3 ∧ P.cellsOf g.type = 3 ∧ P.cellsOf k.type = 3 ∧ P.cellsOf t = 9 ∧ qa9 P f.type = true ∧ qa9 P g.type = true ∧ qa9 P k.type = true ∧
  ∃ ts, P.cellTypes P.depth t = some ts ∧ ts.length = 9 ∧ ∀ i, (i = 1 ∨ i = 4 ∨ i = 7) → ∃ u, ts[i]? = some u ∧ qbW P u = true := by
 unfold qd3 at h
 split at h
 ·rename_i fs hu
  rw [Bool.and_eq_true] at h
  obtain ⟨h, hc⟩ := h
  split at h
  ·rename_i f g k hfs
   simp only [Bool.and_eq_true, beq_iff_eq] at h
   obtain ⟨⟨⟨⟨⟨⟨⟨⟨⟨h1, h2⟩, h3⟩, h4⟩, h5⟩, h6⟩, h7⟩, h8⟩, h9⟩, h10⟩ := h
   have hf : fs = #[f, g, k] := by cases fs; simp_all
   subst hf
   refine ⟨f, g, k, hu, h1, h2, h3, h4, h5, h6, h7, h8, h9, h10, ?_⟩
   split at hc
   ·rename_i u0 u1 u2 u3 u4 u5 u6 u7 u8 hts
    simp only [Bool.and_eq_true] at hc
    obtain ⟨⟨c1, c4⟩, c7⟩ := hc
    refine ⟨_, hts, rfl, fun i hi => ?_⟩
    rcases hi with rfl | rfl | rfl
    ·exact ⟨u1, rfl, c1⟩
    ·exact ⟨u4, rfl, c4⟩
    ·exact ⟨u7, rfl, c7⟩
   ·cases hc
  ·cases h
 ·cases h
theorem qgB {a : Addr} (hs : a.spot = none) (i : Nat) : a.add i = ⟨a.block, a.off + i, none⟩ := by
 unfold Addr.add
 split
 ·rename_i h; subst h; cases a; simp_all
 ·rfl
def DyR (w : World) (l : List Int) (s : Value) : Prop := qbm (qb0 w) .u32 l s ∧ ∀ n ∈ l, (Lit.int .u32 n).wf = true
theorem qip {n : Int} (h : (Lit.int .u32 n).wf = true) : inr .u32 n := by
 intro _
 simp [Lit.wf, IntKind.min, IntKind.max, IntKind.signed, IntKind.bits] at h
 omega
theorem qeH {s : Value} {N : List Nat} (h : SlR w s N) (hs : ∀ a len cap, s = .slice (some a) len cap → a.spot = none) : ∃ l, DyR w l s ∧ (l.length = 0 ∨ ∃ n ∈ N, l.length * 4 ≤ n) := by
 rcases h with rfl | ⟨a, len, cap, zs, rfl, h1, h2, h3, h4, h5⟩
 ·exact ⟨[], ⟨⟨(fun x hx => by cases hx), .inl ⟨rfl, rfl⟩⟩, (fun x hx => by cases hx)⟩, .inl rfl⟩
 ·have hsp := hs a len cap rfl
  have hlen : (zs.take len).length = len := by rw [List.length_take]; omega
  have hw : ∀ n ∈ zs.take len, (Lit.int .u32 n).wf = true := fun n hn => h4 n (List.mem_of_mem_take hn)
  refine ⟨zs.take len, ⟨⟨fun x hx => qip (hw x hx), .inr ⟨a.block, a.off, cap, ?_, by omega, fun i x hx => ?_⟩⟩, hw⟩, .inr ?_⟩
  ·rw [hlen]; cases a; simp_all
  ·rw [List.getElem?_take] at hx
   split at hx
   ·obtain ⟨hi, hv⟩ := List.getElem?_eq_some_iff.1 hx
    have := h3 i hi
    rw [qgB hsp] at this
    show w.cell? _ = _
    rw [this]
    simp [List.getD, hx]
   ·cases hx
  ·rw [hlen]; exact h5
theorem qgQ {r : Reach} {b0 : Nat} {u : TypeId} (hu : qbW P u = true) {a : Addr} {len cap : Nat} (h : Cell.okWide P w r b0 u (.slice (some a) len cap)) : a.spot = none := by
 unfold qbW at hu
 split at hu
 ·rename_i e he
  simp only [Cell.okWide, he, Cell.ok] at h
  exact h.2.2.2.1
 ·cases hu
theorem qiH {r : Reach} {b0 : Nat} {t : Nat} {v : Value} {d : DataW H} {ps : List MemPlace} (h : qd3 P t = true) (hval : Value.okWide P w r b0 t v) (hd : DataW.Trod enc P w base spare held t v d ps) :
  ∃ (p0 p1 p2 : Bool) (l0 l1 l2 : List Int) (e0 e1 e2 : Int) (s0 s1 s2 : Value), v = .agg #[.bool p0, s0, .int .i64 e0, .bool p1, s1, .int .i64 e1, .bool p2, s2, .int .i64 e2] ∧
   DyR w l0 s0 ∧ DyR w l1 s1 ∧ DyR w l2 s2 ∧ (Lit.int .i64 e0).wf = true ∧ (Lit.int .i64 e1).wf = true ∧ (Lit.int .i64 e2).wf = true ∧
   (l0.length = 0 ∨ ∃ n ∈ d.weights P t, l0.length * 4 ≤ n) ∧ (l1.length = 0 ∨ ∃ n ∈ d.weights P t, l1.length * 4 ≤ n) ∧ (l2.length = 0 ∨ ∃ n ∈ d.weights P t, l2.length * 4 ≤ n) := by
 obtain ⟨f, g, k, hu, h1, h2, h3, h4, h5, h6, h7, h8, h9, h10, ts, hts, hlen, hsl⟩ := qgW h
 have hrow : ∃ cs, v = .agg cs ∧ cs.size = P.cellsOf t ∧ Row.okWide P w r b0 t cs := by
  simpa only [Value.okWide, hu] using hval
 obtain ⟨cs, rfl, hsz, ts', hts', _, hcell⟩ := hrow
 rw [hts] at hts'
 cases hts'
 obtain ⟨fuel, hf⟩ := hd
 obtain ⟨y0, y1, y2, n, hx, hl, g0, g1, g2⟩ := trod_struct3 hu hf
 rw [h1, h4] at g0
 rw [h2, h5] at g1
 rw [h3, h6] at g2
 obtain ⟨p0, e0, s0, q0, w0, z0⟩ := qdY h8 g0
 obtain ⟨p1, e1, s1, q1, w1, z1⟩ := qdY h9 g1
 obtain ⟨p2, e2, s2, q2, w2, z2⟩ := qdY h10 g2
 have hcl : cs.toList.length = 9 := by rw [← h7]; exact hsz
 have hcs : cs.toList = [.bool p0, s0, .int .i64 e0, .bool p1, s1, .int .i64 e1, .bool p2, s2, .int .i64 e2] := by
  have q0 : (cs.toList.drop 0).take 3 = [.bool p0, s0, .int .i64 e0] := q0
  have q1 : (cs.toList.drop 3).take 3 = [.bool p1, s1, .int .i64 e1] := q1
  have q2 : (cs.toList.drop 6).take 3 = [.bool p2, s2, .int .i64 e2] := q2
  match hh : cs.toList, hcl with
  | [c0, c1, c2, c3, c4, c5, c6, c7, c8], _ =>
   rw [hh] at q0 q1 q2
   simp at q0 q1 q2
   simp [q0, q1, q2]
 have hcs' : cs = #[.bool p0, s0, .int .i64 e0, .bool p1, s1, .int .i64 e1, .bool p2, s2, .int .i64 e2] := by cases cs; simp_all
 have spot : ∀ (i : Nat), (i = 1 ∨ i = 4 ∨ i = 7) → ∀ s, cs[i]? = some s → ∀ a len cap, s = .slice (some a) len cap → a.spot = none := by
  intro i hi s hs a len cap e
  obtain ⟨u, hu1, hu2⟩ := hcell i s hs
  obtain ⟨u', hu3, hu4⟩ := hsl i hi
  rw [hlen, Nat.mod_eq_of_lt (by omega), hu3] at hu1
  cases hu1
  rw [e] at hu2
  exact qgQ hu4 hu2
 have hd1 : d = .agg [y0.1, y1.1, y2.1] := congrArg Prod.fst hx
 have hm : ∀ (j : Nat) (tt : TypeId) (y : DataW H), [f.type, g.type, k.type][j]? = some tt → [y0.1, y1.1, y2.1][j]? = some y → ∀ n ∈ y.weights P tt, n ∈ d.weights P t := by
  intro j tt y ht hy n hn
  rw [hd1]
  simp only [DataW.weights, hu]
  exact DataW.weights_mem_each ht hy n hn
 obtain ⟨l0, r0, b0⟩ := qeH z0 (spot 1 (.inl rfl) s0 (by rw [hcs']; rfl))
 obtain ⟨l1, r1, b1⟩ := qeH z1 (spot 4 (.inr (.inl rfl)) s1 (by rw [hcs']; rfl))
 obtain ⟨l2, r2, b2⟩ := qeH z2 (spot 7 (.inr (.inr rfl)) s2 (by rw [hcs']; rfl))
 refine ⟨p0, p1, p2, l0, l1, l2, e0, e1, e2, s0, s1, s2, by rw [hcs'], r0, r1, r2, w0, w1, w2, ?_, ?_, ?_⟩
 ·exact b0.imp id fun ⟨n, hn, hh⟩ => ⟨n, hm 0 _ _ rfl rfl n hn, hh⟩
 ·exact b1.imp id fun ⟨n, hn, hh⟩ => ⟨n, hm 1 _ _ rfl rfl n hn, hh⟩
 ·exact b2.imp id fun ⟨n, hn, hh⟩ => ⟨n, hm 2 _ _ rfl rfl n hn, hh⟩
theorem qiv {φ : Plc} {p0 p1 p2 : Bool} {l0 l1 l2 : List Int} {e0 e1 e2 : Int} {s0 s1 s2 : Value} (r0 : DyR w l0 s0) (r1 : DyR w l1 s1) (r2 : DyR w l2 s2) :
  RV (qb0 w) φ (.agg #[.bool p0, s0, .int .i64 e0, .bool p1, s1, .int .i64 e1, .bool p2, s2, .int .i64 e2]) (.agg [.bool p0, .ints .u32 l0, .int .i64 e0, .bool p1, .ints .u32 l1, .int .i64 e1, .bool p2, .ints .u32 l2, .int .i64 e2]) := by
 refine ⟨_, rfl, rfl, fun j y hj => ?_⟩
 rcases j with _ | _ | _ | _ | _ | _ | _ | _ | _ | j
 ·obtain rfl := Option.some.inj hj; exact ⟨_, rfl, rfl⟩
 ·obtain rfl := Option.some.inj hj; exact ⟨_, rfl, r0.1⟩
 ·obtain rfl := Option.some.inj hj; exact ⟨_, rfl, rfl, qbb _⟩
 ·obtain rfl := Option.some.inj hj; exact ⟨_, rfl, rfl⟩
 ·obtain rfl := Option.some.inj hj; exact ⟨_, rfl, r1.1⟩
 ·obtain rfl := Option.some.inj hj; exact ⟨_, rfl, rfl, qbb _⟩
 ·obtain rfl := Option.some.inj hj; exact ⟨_, rfl, rfl⟩
 ·obtain rfl := Option.some.inj hj; exact ⟨_, rfl, r2.1⟩
 ·obtain rfl := Option.some.inj hj; exact ⟨_, rfl, rfl, qbb _⟩
 ·cases hj
theorem qiM {ts : List TypeId} {ds : List (DataW H)} (h : (DataW.weightsEach P ts ds).all (· ≤ reachBytes) = true) {j : Nat} {t : TypeId} {d : DataW H} (ht : ts[j]? = some t) (hd : ds[j]? = some d) {l : Nat} (hl : l = 0 ∨ ∃ n ∈ d.weights P t, l * 4 ≤ n) : l ≤ 140737488355328 := by
 rcases hl with rfl | ⟨n, hn, hl⟩
 ·omega
 ·have h1 := List.all_eq_true.1 h _ (DataW.weights_mem_each ht hd n hn)
  have h2 : n ≤ reachBytes := by simpa using h1
  have h3 : reachBytes ≤ 140737488355328 := by decide
  omega
end
end Go.Proofs.YtlngoohfkaceoaaGreatDoor.Eng
