/- The first layer's plain functions: products. -/
import Derived.Test.YtldcelgbinenbaaQNatRootsKN2
set_option linter.unusedVariables false
set_option linter.unusedSimpArgs false
namespace Go.Proofs.Ytldcelgbinenbaa.K
open Go.RowKit Go.Proofs.Ytldcelgbinenbaa.Px Go.Proofs.YtldcelgbinenbaaW.PrintWords Go.Proofs.YtldcelgbinenbaaW.PrintLast Go.Proofs.YtldcelgbinenbaaW.PrintMore

theorem mul_bd {x y : Int} (hx : 0 ≤ x ∧ x < 4294967296) (hy : 0 ≤ y ∧ y < 4294967296) : 0 ≤ x * y ∧ x * y ≤ 18446744065119617025 := by
  constructor
  · exact Int.mul_nonneg hx.1 hy.1
  · have h1 : x * y ≤ 4294967295 * y := Int.mul_le_mul_of_nonneg_right (by omega) hy.1
    have h2 : 4294967295 * y ≤ 4294967295 * 4294967295 := Int.mul_le_mul_of_nonneg_left (by omega) (by omega)
    omega
/-- a row: the digit times the second list, on what stands there -/
def rowRec : Int → List Int → List Int → Int → List Int
  | _, [], o, c => c :: o.tail
  | x, y :: b, o, c => ((x * y + o.headD 0 + c) % 4294967296) :: rowRec x b o.tail ((x * y + o.headD 0 + c) / 4294967296)
theorem toNat_mul {x y : Int} (hx : 0 ≤ x) (hy : 0 ≤ y) : (x * y).toNat = x.toNat * y.toNat := Int.toNat_mul hx hy
theorem rowRec_V {x : Int} (hx : 0 ≤ x ∧ x < 4294967296) : ∀ (b o : List Int) (c : Int) (m : Nat), Dg b → Dg o → 0 ≤ c ∧ c < 4294967296 → o.drop b.length = List.replicate (m + 1) 0 →
    V (rowRec x b o c) = V o + x.toNat * V b + c.toNat ∧ Dg (rowRec x b o c) ∧ (rowRec x b o c).tail.drop b.length = List.replicate m 0 ∧ (rowRec x b o c).length = o.length
  | [], o, c, m, hb, ho, hc, hz => by
    have hz' : o = 0 :: List.replicate m 0 := by simpa [List.replicate_succ] using hz
    subst hz'
    refine ⟨?_, ?_, ?_, ?_⟩
    · simp [rowRec, V_zeros]
    · exact Dg.cons hc.1 hc.2 (Dg.zeros m)
    · simp [rowRec]
    · simp [rowRec]
  | y :: b, o, c, m, hb, ho, hc, hz => by
    obtain ⟨o0, o, rfl⟩ : ∃ o0 o', o = o0 :: o' := by
      cases o with
      | nil => simp at hz
      | cons o0 o' => exact ⟨o0, o', rfl⟩
    have hy := hb.head
    have h0 := ho.head
    have hp := mul_bd hx hy
    have hz2 : o.drop b.length = List.replicate (m + 1) 0 := by simpa using hz
    have := rowRec_V hx b o ((x * y + o0 + c) / 4294967296) m hb.tail ho.tail (by omega) hz2
    simp only [rowRec, List.headD_cons, List.tail_cons]
    refine ⟨?_, Dg.cons (by omega) (by omega) this.2.1, ?_, by simp [this.2.2.2]⟩
    · have e1 : x.toNat * (y.toNat + 4294967296 * V b) = (x * y).toNat + 4294967296 * (x.toNat * V b) := by
        rw [Nat.mul_add, Nat.mul_left_comm, toNat_mul hx.1 hy.1]
      rw [V_cons, this.1, V_cons, V_cons, e1]
      omega
    · obtain ⟨r0, r, hr⟩ : ∃ r0 r', rowRec x b o ((x * y + o0 + c) / 4294967296) = r0 :: r' := by
        cases h : rowRec x b o ((x * y + o0 + c) / 4294967296) with
        | nil =>
          have hl := this.2.2.2
          rw [h] at hl
          have : o = [] := List.eq_nil_of_length_eq_zero (by simpa using hl.symm)
          subst this; simp at hz2
        | cons r0 r' => exact ⟨r0, r', rfl⟩
      have h3 := this.2.2.1
      rw [hr] at h3 ⊢
      simpa using h3
/-- row by row -/
def mulRec : List Int → List Int → List Int → List Int
  | [], _, o => o
  | x :: a, b, o => (rowRec x b o 0).headD 0 :: mulRec a b (rowRec x b o 0).tail
theorem mulRec_V : ∀ (a b o : List Int), Dg a → Dg b → Dg o → o.drop b.length = List.replicate a.length 0 → V (mulRec a b o) = V o + V a * V b ∧ Dg (mulRec a b o) ∧ (mulRec a b o).length = o.length
  | [], b, o, ha, hb, ho, hz => by simp [mulRec, ho]
  | x :: a, b, o, ha, hb, ho, hz => by
    have hr := rowRec_V ha.head b o 0 a.length hb ho (by omega) (by simpa using hz)
    obtain ⟨r0, r, he⟩ : ∃ r0 r', rowRec x b o 0 = r0 :: r' := by
      cases h : rowRec x b o 0 with
      | nil =>
        have hl := hr.2.2.2
        rw [h] at hl
        have : o = [] := List.eq_nil_of_length_eq_zero (by simpa using hl.symm)
        subst this; simp at hz
      | cons r0 r' => exact ⟨r0, r', rfl⟩
    rw [he] at hr
    have := mulRec_V a b r ha.tail hb hr.2.1.tail (by simpa using hr.2.2.1)
    simp only [mulRec, he, List.headD_cons, List.tail_cons]
    refine ⟨?_, Dg.cons hr.2.1.head.1 hr.2.1.head.2 this.2.1, ?_⟩
    · have h1 := hr.1
      rw [V_cons] at h1
      rw [V_cons, this.1, V_cons, Nat.add_mul, Nat.mul_add, Nat.mul_assoc]
      simp at h1
      omega
    · have := hr.2.2.2
      simp at this ⊢; omega
theorem mul_l1 (A Bl : List Int) (i : Nat) (x : Int) (hx : 0 ≤ x ∧ x < 4294967296) (hB : Dg Bl) (hl : A.length < 1000000000) (hlb : Bl.length < 1000000000) (hi : i < A.length) (res : List Int) : ∀ (b done r pb : List Int) (c : Int), Bl = pb ++ b → done.length = i + pb.length → b.length < r.length → Dg r → 0 ≤ c ∧ c < 4294967296 →
    Ev (fun k => nat_mul.l0 k Bl (done ++ rowRec x b r c) A A.length ((i + 1 : Nat) : Int)) res →
    Ev (fun k => nat_mul.l1 k Bl (done ++ r) i x c A A.length i Bl Bl.length pb.length) res
  | [], done, r, pb, c, he, hd, hr, hg, hc, H => by
    obtain ⟨y, r, rfl⟩ : ∃ y r', r = y :: r' := by
      cases r with
      | nil => simp at hr
      | cons y r' => exact ⟨y, r', rfl⟩
    have hlen : Bl.length = pb.length := by rw [he]; simp
    refine ev_step ?_
    have e : wrap64 ((i : Int) + (Bl.length : Int)) = ((i + Bl.length : Nat) : Int) := by unfold wrap64; omega
    simp only [nat_mul.l1, e, w64s (n := i) (by omega)]
    clear e
    refine ev_neg (by omega) (ev_pos (by omega) (ev_pos (by simp; omega) ?_))
    have hs : (done ++ y :: r).set (((i + Bl.length : Nat) : Int)).toNat (c % 4294967296) = done ++ rowRec x [] (y :: r) c := by
      rw [set_app (by omega)]; simp [rowRec]; omega
    rw [hs]; exact H
  | y :: b, done, r, pb, c, he, hd, hr, hg, hc, H => by
    obtain ⟨o, r, rfl⟩ : ∃ y r', r = y :: r' := by
      cases r with
      | nil => simp at hr
      | cons y r' => exact ⟨y, r', rfl⟩
    have hlen : Bl.length = pb.length + 1 + b.length := by rw [he]; simp; omega
    have hy : 0 ≤ y ∧ y < 4294967296 := by rw [he] at hB; exact hB.right.head
    have ho := hg.head
    have hp := mul_bd hx hy
    refine ev_step ?_
    have e : wrap64 ((i : Int) + (pb.length : Int)) = ((done.length : Nat) : Int) := by unfold wrap64; omega
    simp only [nat_mul.l1, e, w64s (n := pb.length) (by omega)]
    clear e
    refine ev_pos (by omega) (ev_pos (by omega) (ev_pos (by omega) (ev_pos (by omega) (ev_pos (by simp; omega) ?_))))
    have h1 : rd Bl (pb.length : Int) = y := by rw [he]; exact rd_app rfl
    have h2 : rd (done ++ o :: r) (done.length : Int) = o := rd_app rfl
    rw [h1, h2, set_app rfl, u64 hx.1 (by omega), u64 hy.1 (by omega), u64 ho.1 (by omega), u64 (n := x * y) hp.1 (by omega), u64 (n := x * y + o) (by omega) (by omega), u64 (n := x * y + o + c) (by omega) (by omega)]
    have := mul_l1 A Bl i x hx hB hl hlb hi res b (done ++ [(x * y + o + c) % 4294967296]) r (pb ++ [y]) ((x * y + o + c) / 4294967296) (by rw [he]; simp) (by simp [hd]; omega) (by simpa using hr) hg.tail (by omega) (by simpa [rowRec] using H)
    simpa using this
theorem mul_l0 (A Bl : List Int) (hA : Dg A) (hB : Dg Bl) (hl : A.length < 1000000000) (hlb : Bl.length < 1000000000) : ∀ (a done r pa : List Int), A = pa ++ a → done.length = pa.length → Dg done → Dg r → r.length = Bl.length + a.length → r.drop Bl.length = List.replicate a.length 0 →
    Ev (fun k => nat_mul.l0 k Bl (done ++ r) A A.length done.length) (D (V (done ++ mulRec a Bl r)))
  | [], done, r, pa, he, hd, hg, hr, hrl, hz => by
    have hlen : A.length = done.length := by rw [he, hd]; simp
    refine ev_step ?_
    simp only [nat_mul.l0]
    refine ev_neg (by omega) ?_
    refine Ev.bind (nat_trim_ev (hg.app hr) (by simp; simp at hrl; omega)) ?_
    exact Ev.now _
  | x :: a, done, r, pa, he, hd, hg, hr, hrl, hz => by
    have hlen : A.length = done.length + 1 + a.length := by rw [he, hd]; simp; omega
    have hx : 0 ≤ x ∧ x < 4294967296 := by rw [he] at hA; exact hA.right.head
    have hrr := rowRec_V hx Bl r 0 a.length hB hr (by omega) (by simpa using hz)
    refine ev_step ?_
    simp only [nat_mul.l0]
    refine ev_pos (by omega) (ev_pos (by omega) (ev_pos (by omega) ?_))
    have h1 : rd A (done.length : Int) = x := by rw [he]; exact rd_app (by omega)
    rw [h1]
    refine mul_l1 A Bl done.length x hx hB hl hlb (by omega) _ Bl done r [] 0 rfl rfl (by simp at hrl; omega) hr (by omega) ?_
    obtain ⟨r0, r', e⟩ : ∃ r0 r', rowRec x Bl r 0 = r0 :: r' := by
      cases h : rowRec x Bl r 0 with
      | nil =>
        have hl := hrr.2.2.2
        rw [h] at hl
        simp at hrl hl; omega
      | cons r0 r' => exact ⟨r0, r', rfl⟩
    rw [e] at hrr
    have := mul_l0 A Bl hA hB hl hlb a (done ++ [r0]) r' (pa ++ [x]) (by rw [he]; simp) (by simp [hd]) (hg.app (Dg.cons hrr.2.1.head.1 hrr.2.1.head.2 Dg.nil)) hrr.2.1.tail (by have := hrr.2.2.2; simp at this hrl; omega) (by simpa using hrr.2.2.1)
    rw [List.length_append, List.length_singleton, List.append_assoc] at this
    have e2 : done ++ mulRec (x :: a) Bl r = done ++ [r0] ++ mulRec a Bl r' := by simp [mulRec, e]
    rw [e, e2]; simpa using this
theorem nat_mul_ev {a b : List Int} (ha : Dg a) (hb : Dg b) (la : a.length < 1000000000) (lb : b.length < 1000000000) : Ev (fun k => nat_mul.f k a b) (D (V a * V b)) := by
  unfold nat_mul.f
  have e : wrap64 ((a.length : Int) + (b.length : Int)) = ((a.length + b.length : Nat) : Int) := by unfold wrap64; omega
  simp only [e]
  clear e
  refine ev_pos (by omega) (ev_pos (by omega) ?_)
  have := mul_l0 a b ha hb la lb a [] (List.replicate (a.length + b.length) 0) [] rfl rfl Dg.nil (Dg.zeros _) (by simp; omega) (by simp)
  refine ev_eq this ?_
  have h2 := mulRec_V a b (List.replicate (a.length + b.length) 0) ha hb (Dg.zeros _) (by simp)
  simp [h2.1, V_zeros]
theorem D_len_pos {l : List Int} (h : Nm l) (h0 : l ≠ []) : 4294967296 ^ (l.length - 1) ≤ V l := by
  have h1 : V l ≠ 0 := fun e => h0 ((V_eq_zero h).1 e)
  have := D_len_ge h1
  rwa [h.len] at this
/-! ### the reference's products, column by column -/
def conv : List Int → List Int → Nat → Nat
  | [], _, _ => 0
  | x :: _, b, 0 => x.toNat * (b.getD 0 0).toNat
  | x :: a, b, k + 1 => x.toNat * (b.getD (k + 1) 0).toNat + conv a b k
end Go.Proofs.Ytldcelgbinenbaa.K
