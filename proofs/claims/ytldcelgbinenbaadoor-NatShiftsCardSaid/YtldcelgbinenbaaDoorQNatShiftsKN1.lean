/- The first layer's plain functions: trimmed lists, comparisons, sums and differences are the numbers' own. -/
import Derived.Laws.BitsAllLaws
import Derived.Test.YtldcelgbinenbaaDoorQNatShiftsKBase
import Derived.Test.YtldcelgbinenbaaDoorQNatShiftsF1
set_option linter.unusedVariables false
set_option linter.unusedSimpArgs false
namespace Go.Proofs.YtldcelgbinenbaaDoor.K
open Go.RowKit Go.Proofs.YtldcelgbinenbaaDoor.Px Go.Proofs.YtldcelgbinenbaaDoorW.PrintWords Go.Proofs.YtldcelgbinenbaaDoorW.PrintLast Go.Proofs.YtldcelgbinenbaaDoorW.PrintMore

theorem w64s {n : Nat} (h : n < 4611686018427387904) : wrap64 ((n : Int) + 1) = ((n + 1 : Nat) : Int) := by unfold wrap64; omega
theorem w64p {n : Nat} (h : n < 4611686018427387904) : wrap64 (((n + 1 : Nat) : Int) - 1) = (n : Int) := by unfold wrap64; omega

/-! ### trimmed -/
theorem trim_ev : ∀ (n : Nat) (l : List Int), l.length = n → Dg l → n < 4611686018427387904 → Ev (fun k => nat_trim.f k l) (D (V l))
  | 0, l, hn, hd, hb => by
    have : l = [] := List.eq_nil_of_length_eq_zero hn
    subst this
    refine ev_step (ev_const ?_)
    simp [nat_trim.f, nat_trim.l0, D_zero]
  | n + 1, l, hn, hd, hb => by
    rcases List.eq_nil_or_concat l with rfl | ⟨a, d, rfl⟩
    · simp at hn
    rw [List.concat_eq_append] at hn hd ⊢
    have hl : (a ++ [d]).length = n + 1 := hn
    have ha : a.length = n := by simpa using hn
    refine ev_step ?_
    show Ev (fun k => nat_trim.l0 (k + 1) (a ++ [d])) _
    simp only [nat_trim.l0, hl, w64p (n := n) (by omega)]
    refine ev_pos (by omega) (ev_pos (by omega) (ev_pos (by omega) ?_))
    rw [rd_app (by omega)]
    by_cases h0 : d = 0
    · subst h0
      refine ev_pos rfl (ev_pos (by omega) ?_)
      rw [V_snoc_zero]
      have : (a ++ [(0 : Int)]).take (n : Int).toNat = a := by simp [← ha]
      rw [this]
      exact trim_ev n a ha hd.left (by omega)
    · refine ev_neg h0 ?_
      have := hd d (by simp)
      rw [Nm_snoc hd.left (by omega) this.2]
      exact Ev.now _
theorem nat_trim_ev {l : List Int} (hd : Dg l) (hb : l.length < 4611686018427387904) : Ev (fun k => nat_trim.f k l) (D (V l)) := trim_ev _ l rfl hd hb
theorem rtrim_ev (l : List Int) (hd : Dg l) (hb : l.length < 4611686018427387904) : ∀ (n : Nat) (a b : List Int), a.length = n → l = a ++ b → V b = 0 → Ev (fun k => cutplaneref01_Trim.l0 k l n) (D (V l))
  | 0, a, b, hn, he, h0 => by
    have : a = [] := List.eq_nil_of_length_eq_zero hn
    subst this
    refine ev_step ?_
    simp only [cutplaneref01_Trim.l0]
    refine ev_neg (by omega) (ev_pos (by omega) (ev_pos (by omega) ?_))
    rw [he]; simp [h0, D_zero]; exact Ev.now _
  | n + 1, a, b, hn, he, h0 => by
    rcases List.eq_nil_or_concat a with rfl | ⟨a, d, rfl⟩
    · simp at hn
    rw [List.concat_eq_append] at hn he
    have ha : a.length = n := by simpa using hn
    have hl : l.length = n + 1 + b.length := by rw [he]; simp [ha]; omega
    refine ev_step ?_
    simp only [cutplaneref01_Trim.l0, w64p (n := n) (by omega)]
    refine ev_pos (by omega) (ev_pos (by omega) (ev_pos (by omega) ?_))
    have hr : rd l n = d := by rw [he, List.append_assoc]; exact rd_app (by omega)
    rw [hr]
    by_cases hz : d = 0
    · refine ev_pos hz ?_
      exact rtrim_ev l hd hb n a (d :: b) ha (by rw [he]; simp) (by simp [h0, hz])
    · refine ev_neg hz (ev_pos (by omega) (ev_pos (by omega) ?_))
      have hd2 := hd
      rw [he] at hd2
      have h1 := hd2.left d (by simp)
      have h2 : V l = V (a ++ [d]) := by rw [he, V_append (a ++ [d]) b, h0]; simp
      have h3 : l.take ((n + 1 : Nat) : Int).toNat = a ++ [d] := by
        rw [he, Int.toNat_natCast]; exact List.take_left' (by simp [ha])
      rw [h3, h2, Nm_snoc hd2.left.left (by omega) h1.2]
      exact Ev.now _
theorem ref_Trim_ev {l : List Int} (hd : Dg l) (hb : l.length < 4611686018427387904) : Ev (fun k => cutplaneref01_Trim.f k l) (D (V l)) :=
  rtrim_ev l hd hb l.length l [] rfl (by simp) rfl
/-! ### the same digits -/
theorem same_l0 (x y : List Int) (hl : x.length = y.length) (hb : x.length < 4611686018427387904) : ∀ (d n : Nat), n + d = x.length → Ev (fun k => cutplaneref01_Same.l0 k x y n) (decide (x.drop n = y.drop n))
  | 0, n, h => by
    refine ev_step ?_
    simp only [cutplaneref01_Same.l0]
    refine ev_neg (by omega) ?_
    rw [List.drop_eq_nil_of_le (by omega), List.drop_eq_nil_of_le (by omega)]
    exact Ev.now _
  | d + 1, n, h => by
    refine ev_step ?_
    simp only [cutplaneref01_Same.l0, w64s (n := n) (by omega)]
    refine ev_pos (by omega) (ev_pos (by omega) (ev_pos (by omega) ?_))
    have hx : n < x.length := by omega
    have hy : n < y.length := by omega
    have e1 : rd x n = x[n] := by rw [rdn]; simp [hx]
    have e2 : rd y n = y[n] := by rw [rdn]; simp [hy]
    have d1 := List.drop_eq_getElem_cons hx
    have d2 := List.drop_eq_getElem_cons hy
    rw [e1, e2]
    by_cases he : x[n] = y[n]
    · refine ev_pos he ?_
      refine ev_eq (same_l0 x y hl hb d (n + 1) (by omega)) ?_
      exact decide_eq_decide.2 ⟨fun h => by rw [d1, d2, he, h], fun h => by rw [d1, d2] at h; exact (List.cons.inj h).2⟩
    · refine ev_neg he ?_
      refine ev_eq (Ev.now _) ?_
      exact (decide_eq_false (fun h => by rw [d1, d2] at h; exact he (List.cons.inj h).1)).symm
theorem ref_Same_ev (x y : List Int) (hb : x.length < 4611686018427387904) : Ev (fun k => cutplaneref01_Same.f k x y) (decide (x = y)) := by
  unfold cutplaneref01_Same.f
  by_cases h : x.length = y.length
  · refine ev_pos (by omega) ?_
    exact ev_eq (same_l0 x y h hb x.length 0 (by omega)) (by simp)
  · refine ev_neg (by omega) ?_
    refine ev_eq (Ev.now _) ?_
    have : x ≠ y := fun e => h (by rw [e])
    simp [this]

/-! ### which lists are numbers -/
def may (l : List Int) : Bool := decide (l.length ≤ 4096) && decide (Nm l)
theorem may_iff {l : List Int} : may l = true ↔ l.length ≤ 4096 ∧ Nm l := by simp [may]
theorem nat_May_eq {l : List Int} (h : Dg l) (hb : l.length < 4611686018427387904) : nat_May.f l = some (may l) := by
  unfold nat_May.f may
  by_cases h1 : l.length ≤ 4096
  · rw [if_pos (by omega)]
    by_cases h2 : l.length = 0
    · have : l = [] := List.eq_nil_of_length_eq_zero h2
      subst this; simp [Nm_nil]
    · rw [if_neg (by omega)]
      have e : wrap64 ((l.length : Int) - 1) = ((l.length - 1 : Nat) : Int) := by unfold wrap64; omega
      rw [e, if_pos (by omega), if_pos (by omega), rdn]
      have h3 : l ≠ [] := fun e => h2 (by rw [e]; rfl)
      have h4 := Nm_iff h
      by_cases h5 : l.getD (l.length - 1) 0 = 0
      · have : ¬ Nm l := fun k => by rcases h4.1 k with k | k <;> contradiction
        rw [h5]; simp [this]
      · have : Nm l := h4.2 (.inr h5)
        have h6 : (l.getD (l.length - 1) 0 != 0) = true := by simpa [bne] using h5
        rw [h6]; simp [h1, this]
  · rw [if_neg (by omega)]; simp [h1]
theorem ref_May_eq {l : List Int} (h : Dg l) (hb : l.length < 4611686018427387904) : cutplaneref01_May.f l = some (may l) := by
  have := nat_May_eq h hb
  unfold nat_May.f at this
  unfold cutplaneref01_May.f
  exact this
theorem all2_ev {a b : List Int} (ha : Dg a) (hb : Dg b) (la : a.length < 4611686018427387904) (lb : b.length < 4611686018427387904) : Ev (fun k => nat_all.f k [a, b]) (may a && may b) := by
  unfold nat_all.f
  refine ev_step ?_
  simp only [nat_all.l0]
  refine ev_pos (by simp) (ev_pos (by omega) (ev_pos (by simp) ?_))
  have e0 : rd_L1 [a, b] 0 = a := rfl
  have e1 : rd_L1 [a, b] 1 = b := rfl
  rw [e0]
  refine ev_bind (nat_May_eq ha la) ?_
  cases may a with
  | false => exact ev_neg (by simp) (Ev.now _)
  | true =>
    refine ev_pos rfl ?_
    have w1 : wrap64 (0 + 1) = 1 := by unfold wrap64; omega
    have w2 : wrap64 (1 + 1) = 2 := by unfold wrap64; omega
    rw [w1]
    refine ev_step ?_
    simp only [nat_all.l0]
    refine ev_pos (by simp) (ev_pos (by omega) (ev_pos (by simp) ?_))
    rw [e1]
    refine ev_bind (nat_May_eq hb lb) ?_
    cases may b with
    | false => exact ev_neg (by simp) (Ev.now _)
    | true =>
      refine ev_pos rfl ?_
      rw [w2]
      refine ev_step ?_
      simp only [nat_all.l0]
      exact ev_neg (by simp) (Ev.now _)
def bound (n : Nat) : List Int × Int := if (D n).length > 4096 then ([], 3) else (D n, 0)
theorem nat_bound_eq (n : Nat) : nat_bound.f (D n) = some (bound n) := by
  unfold nat_bound.f bound
  by_cases h : (D n).length > 4096
  · rw [if_pos (by omega), if_pos h]
  · rw [if_neg (by omega), if_neg h]

/-! ### sums -/
theorem add32_eq {x y c : Int} (hx : 0 ≤ x ∧ x < 4294967296) (hy : 0 ≤ y ∧ y < 4294967296) (hc : 0 ≤ c ∧ c < 4294967296) : bits_Add32.f x y c = some ((x + y + c) % 4294967296, (x + y + c) / 4294967296) := by
  unfold bits_Add32.f
  rw [u64 hx.1 (by omega), u64 hy.1 (by omega), u64 hc.1 (by omega), u64 (n := x + y) (by omega) (by omega), u64 (by omega) (by omega)]
  have : (x + y + c) / 4294967296 % 4294967296 = (x + y + c) / 4294967296 := by omega
  rw [this]
/-- digit by digit, the first list's digits to their end -/
def addRec : List Int → List Int → Int → List Int
  | [], _, c => [c]
  | x :: a, b, c => ((x + b.headD 0 + c) % 4294967296) :: addRec a b.tail ((x + b.headD 0 + c) / 4294967296)
theorem Dg.headD {b : List Int} (h : Dg b) : 0 ≤ b.headD 0 ∧ b.headD 0 < 4294967296 := by
  cases b with
  | nil => simp
  | cons y b => exact h.head
theorem Dg.tl {b : List Int} (h : Dg b) : Dg b.tail := by
  cases b with
  | nil => exact h
  | cons y b => exact h.tail
theorem V_headtail (b : List Int) : V b = (b.headD 0).toNat + 4294967296 * V b.tail := by
  cases b <;> simp
theorem addRec_V {a b : List Int} {c : Int} (ha : Dg a) (hb : Dg b) (hc : 0 ≤ c ∧ c ≤ 1) (hl : b.length ≤ a.length) : V (addRec a b c) = V a + V b + c.toNat ∧ Dg (addRec a b c) := by
  induction a generalizing b c with
  | nil =>
    have : b = [] := List.eq_nil_of_length_eq_zero (by simpa using hl)
    subst this
    exact ⟨by simp [addRec], Dg.cons hc.1 (by omega) Dg.nil⟩
  | cons x a ih =>
    have hx := ha.head
    have hy := hb.headD
    have := ih (b := b.tail) (c := (x + b.headD 0 + c) / 4294967296) ha.tail hb.tl (by omega) (by simp at hl ⊢; omega)
    refine ⟨?_, Dg.cons (by omega) (by omega) this.2⟩
    rw [addRec, V_cons, this.1, V_headtail b, V_cons]
    omega
theorem drop_headD (b : List Int) (n : Nat) : (b.drop n).headD 0 = b.getD n 0 := by
  rw [List.headD_eq_head?_getD, List.head?_drop, List.getD_eq_getElem?_getD]
theorem add_l0 (A Bl : List Int) (hA : Dg A) (hB : Dg Bl) (hl : A.length < 1152921504606846976) : ∀ (a done r : List Int) (c : Int) (pa : List Int), A = pa ++ a → done.length = pa.length → r.length = a.length + 1 → 0 ≤ c ∧ c ≤ 1 → Dg done → (Bl.drop done.length).length ≤ a.length →
    Ev (fun k => nat_Add.l0 k A Bl (done ++ r) c A.length done.length) (bound (V (done ++ addRec a (Bl.drop done.length) c)))
  | [], done, r, c, pa, he, hd, hr, hc, hg, hbl => by
    obtain ⟨y, rfl⟩ : ∃ y, r = [y] := by
      match r, hr with
      | [y], _ => exact ⟨y, rfl⟩
    have hlen : A.length = done.length := by rw [he, hd]; simp
    refine ev_step ?_
    simp only [nat_Add.l0]
    refine ev_neg (by omega) (ev_pos (by omega) (ev_pos (by simp; omega) ?_))
    have hs : (done ++ [y]).set (A.length : Int).toNat c = done ++ [c] := by
      rw [set_app (by omega)]; simp
    rw [hs]
    have hg2 : Dg (done ++ [c]) := hg.app (Dg.cons hc.1 (by omega) Dg.nil)
    refine Ev.bind (nat_trim_ev hg2 (by simp; omega)) ?_
    refine ev_bind (nat_bound_eq _) ?_
    exact Ev.now _
  | x :: a, done, r, c, pa, he, hd, hr, hc, hg, hbl => by
    obtain ⟨y, r, rfl⟩ : ∃ y r', r = y :: r' := by
      match r, hr with
      | y :: r', _ => exact ⟨y, r', rfl⟩
    have hlen : A.length = done.length + 1 + a.length := by rw [he, hd]; simp; omega
    refine ev_step ?_
    simp only [nat_Add.l0, w64s (n := done.length) (by omega)]
    refine ev_pos (by omega) ?_
    have hx : rd A (done.length : Int) = x := by rw [he]; exact rd_app (by omega)
    have hxr : 0 ≤ x ∧ x < 4294967296 := by rw [he] at hA; exact hA.right.head
    have hyr := (hB.drop done.length).headD
    have key : ∀ z, z = (Bl.drop done.length).headD 0 → Ev (fun k => (bits_Add32.f x z c).bind fun bt => if (done.length : Int) < ((done ++ y :: r).length : Int) then nat_Add.l0 k A Bl ((done ++ y :: r).set (done.length : Int).toNat bt.1) bt.2 A.length ((done.length + 1 : Nat) : Int) else none) (bound (V (done ++ addRec (x :: a) (Bl.drop done.length) c))) := by
      rintro z rfl
      refine ev_bind (add32_eq hxr hyr ⟨hc.1, by omega⟩) ?_
      refine ev_pos (by simp; omega) ?_
      rw [set_app rfl]
      have := add_l0 A Bl hA hB hl a (done ++ [(x + (Bl.drop done.length).headD 0 + c) % 4294967296]) r ((x + (Bl.drop done.length).headD 0 + c) / 4294967296) (pa ++ [x]) (by rw [he]; simp) (by simp [hd]) (by simpa using hr) (by omega) (hg.app (Dg.cons (by omega) (by omega) Dg.nil)) (by simp at hbl ⊢; omega)
      rw [List.length_append, List.length_singleton] at this
      refine ev_eq this ?_
      rw [addRec, List.tail_drop]; simp
    by_cases hb : (done.length : Int) < (Bl.length : Int)
    · refine ev_pos hb (ev_pos (by omega) (ev_pos (by omega) ?_))
      rw [hx]
      exact key _ (by rw [drop_headD, rdn])
    · refine ev_neg hb (ev_pos (by omega) (ev_pos (by omega) ?_))
      rw [hx]
      exact key 0 (by rw [List.drop_eq_nil_of_le (by omega)]; rfl)
theorem add_j0 {a b : List Int} (ha : Dg a) (hb : Dg b) (hl : b.length ≤ a.length) (hn : a.length ≤ 4096) : Ev (fun k => nat_Add.j0 k a b) (bound (V a + V b)) := by
  refine ev_step ?_
  simp only [nat_Add.j0, w64s (n := a.length) (by omega)]
  refine ev_pos (by omega) (ev_pos (by omega) ?_)
  have := add_l0 a b ha hb (by omega) a [] (List.replicate (a.length + 1) 0) 0 [] rfl rfl (by simp) (by omega) Dg.nil (by simpa using hl)
  refine ev_eq this ?_
  have h2 := addRec_V ha hb (c := 0) (by omega) hl
  simp [h2.1]
theorem nat_Add_ev {a b : List Int} (ha : Nm a) (hb : Nm b) (la : a.length ≤ 4096) (lb : b.length ≤ 4096) : Ev (fun k => nat_Add.f k a b) (bound (V a + V b)) := by
  unfold nat_Add.f
  refine Ev.bind (all2_ev ha.dg hb.dg (by omega) (by omega)) ?_
  have h1 : may a = true := may_iff.2 ⟨la, ha⟩
  have h2 : may b = true := may_iff.2 ⟨lb, hb⟩
  refine ev_pos (by simp [h1, h2]) ?_
  by_cases h : a.length < b.length
  · refine ev_pos (by omega) ?_
    rw [Nat.add_comm]; exact add_j0 hb.dg ha.dg (by omega) lb
  · exact ev_neg (by omega) (add_j0 ha.dg hb.dg (by omega) la)
theorem known_ev : Ev (fun k => cutplanelaw01_known.f k) true := by
  unfold cutplanelaw01_known.f
  have h1 : Nm [4294967295] := by have := Nm_snoc Dg.nil (d := 4294967295) (by omega) (by omega); simpa using this
  have h2 : Nm [1] := by have := Nm_snoc Dg.nil (d := 1) (by omega) (by omega); simpa using this
  have h3 : Nm [0, 1] := by have := Nm_snoc (l := [0]) (Dg.cons (by omega) (by omega) Dg.nil) (d := 1) (by omega) (by omega); simpa using this
  have e : bound (V [4294967295] + V [1]) = ([0, 1], 0) := by
    have : V [4294967295] + V [1] = V [0, 1] := by decide
    rw [this]; unfold bound; rw [h3]; rfl
  refine Ev.bind (nat_Add_ev h1 h2 (by simp) (by simp)) ?_
  rw [e]
  refine ev_pos rfl (Ev.bind (ref_Same_ev _ _ (by simp)) ?_)
  exact Ev.now _
end Go.Proofs.YtldcelgbinenbaaDoor.K
