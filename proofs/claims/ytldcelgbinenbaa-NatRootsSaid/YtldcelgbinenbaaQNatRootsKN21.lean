/- The first layer's whole root: Newton's step from above, till it does not fall. -/
import Derived.Test.YtldcelgbinenbaaQNatRootsKN20
set_option linter.unusedVariables false
set_option linter.unusedSimpArgs false
namespace Go.Proofs.Ytldcelgbinenbaa.K
open Go Go.RowKit Go.Proofs.Ytldcelgbinenbaa.Px Go.Proofs.YtldcelgbinenbaaW.PrintWords Go.Proofs.YtldcelgbinenbaaW.PrintLast Go.Proofs.YtldcelgbinenbaaW.PrintMore

theorem sq_mid (x t : Nat) : (x + 2 * t) * x ≤ (x + t) * (x + t) := by
  have h1 : (x + 2 * t) * x = x * x + 2 * (t * x) := by rw [Nat.add_mul, Nat.mul_assoc]
  have h2 : (x + t) * (x + t) = x * x + 2 * (t * x) + t * t := by rw [Nat.add_mul, Nat.mul_add, Nat.mul_add, Nat.mul_comm x t]; omega
  omega
theorem newton_ge {a x r : Nat} (hx : 0 < x) (hr : r * r ≤ a) : r ≤ (x + a / x) / 2 := by
  have hz := Nat.zero_le (a / x)
  rcases Nat.lt_or_ge x (2 * r) with h | h
  · have k : (2 * r - x) * x ≤ r * r := by
      rcases Nat.le_total x r with h1 | h1
      · obtain ⟨t, rfl⟩ := Nat.exists_eq_add_of_le h1
        have e : 2 * (x + t) - x = x + 2 * t := by omega
        rw [e]; exact sq_mid x t
      · obtain ⟨t, ht⟩ := Nat.exists_eq_add_of_le h1
        obtain ⟨d, hd⟩ := Nat.exists_eq_add_of_le (show t ≤ r by omega)
        have e : 2 * r - x = d := by omega
        have e2 : x = d + 2 * t := by omega
        have e3 : r = d + t := by omega
        rw [e, e2, e3, Nat.mul_comm]; exact sq_mid d t
    have := (Nat.le_div_iff_mul_le hx).2 (Nat.le_trans k hr)
    omega
  · omega
theorem newton_stop {a x r : Nat} (hx : 0 < x) (hr : a < (r + 1) * (r + 1)) (h : x ≤ (x + a / x) / 2) : x ≤ r := by
  have k : x ≤ a / x := by omega
  have k2 := (Nat.le_div_iff_mul_le hx).1 k
  rcases Nat.lt_or_ge r x with h1 | h1
  · have : (r + 1) * (r + 1) ≤ x * x := Nat.mul_le_mul h1 h1
    omega
  · exact h1
theorem mx_n (a b : Nat) : mx (a : Int) (b : Int) = ((max a b : Nat) : Int) := by unfold mx; split <;> omega
/-- the sum of both rows, digit by digit; then the half, and whether it falls -/
def NextR (A X : List Int) (s : Nat) (res : List Int × Bool × Int) : Prop := Ev (fun k => (nat_down.f k (D s) 1).bind fun t852 => ((nat_cmp.f k t852 X).bind fun t855 => (if t855 ≥ 0 then ((nat_mul.f k X X).bind fun t856 => ((nat_cmp.f k t856 A).bind fun t859 => (some (X, (t859 == 0), 0)))) else (nat_Root.l0 k A t852)))) res
theorem root_l1 (A X Q : List Int) (hX : Dg X) (hQ : Dg Q) (N : Nat) (hN : N < 1000000000) (hqn : Q.length < N) (hxn : X.length < N) (hs : V Q + V X < 4294967296 ^ N) {res : List Int × Bool × Int} (nxt : NextR A X (V Q + V X) res) :
    ∀ (d : Nat) (done r : List Int) (c : Nat), done.length + d = N → r.length = d → c ≤ 1 → Dg done →
    V done + 4294967296 ^ done.length * (V (Q.drop done.length) + V (X.drop done.length) + c) = V Q + V X →
    Ev (fun k => nat_Root.l1 k A X Q (done ++ r) (c : Int) (N : Int) (done.length : Int)) res
  | 0, done, r, c, hd, hr, hc, hg, hv => by
    refine ev_step ?_
    simp only [nat_Root.l1]
    refine ev_neg (by omega) ?_
    have er : r = [] := List.eq_nil_of_length_eq_zero hr
    subst er
    rw [List.append_nil]
    rw [List.drop_eq_nil_of_le (by omega), List.drop_eq_nil_of_le (by omega)] at hv
    have hdn : done.length = N := by omega
    have c0 : c = 0 := by
      rcases Nat.eq_zero_or_pos c with h | h
      · exact h
      · have h1 : c = 1 := by omega
        subst h1
        rw [hdn] at hv
        simp only [V_nil, Nat.zero_add, Nat.mul_one] at hv
        omega
    subst c0
    simp only [V_nil, Nat.zero_add, Nat.mul_zero, Nat.add_zero] at hv
    refine Ev.bind (nat_trim_ev hg (by omega)) ?_
    rw [hv]
    exact nxt
  | d + 1, done, [], c, hd, hr, hc, hg, hv => by simp at hr
  | d + 1, done, y :: r, c, hd, hr, hc, hg, hv => by
    have hq := hQ.getD done.length
    have hx := hX.getD done.length
    have hqv := V_headtail (Q.drop done.length)
    have hxv := V_headtail (X.drop done.length)
    rw [drop_headD, List.tail_drop] at hqv hxv
    have hr2 : ∀ l : List Int, rd l (done.length : Int) = l.getD done.length 0 := fun l => rdn l _
    have hz : ∀ l : List Int, l.length ≤ done.length → l.getD done.length 0 = 0 := fun l h => by rw [List.getD_eq_getElem?_getD, List.getElem?_eq_none (by omega)]; rfl
    have hw : wrap64 ((done.length : Int) + 1) = ((done.length + 1 : Nat) : Int) := w64s (by omega)
    generalize hqd : Q.getD done.length 0 = q at hq hqv
    generalize hxd : X.getD done.length 0 = x at hx hxv
    have key : ∀ s : Int, s = q + x + (c : Int) → Ev (fun k => nat_Root.l1 k A X Q ((done ++ y :: r).set (done.length : Int).toNat (s % 4294967296)) (s / 4294967296) (N : Int) ((done.length + 1 : Nat) : Int)) res := by
      intro s hs2
      obtain ⟨c', hc'⟩ : ∃ c' : Nat, s / 4294967296 = (c' : Int) := ⟨(s / 4294967296).toNat, by omega⟩
      have := root_l1 A X Q hX hQ N hN hqn hxn hs nxt d (done ++ [s % 4294967296]) r c' (by simp; omega) (by simpa using hr) (by omega) (hg.app (Dg.cons (by omega) (by omega) Dg.nil)) (by
        rw [V_append, List.length_append, List.length_singleton, Nat.pow_succ, Nat.mul_assoc, Nat.add_assoc, ← Nat.mul_add, ← hv]
        congr 2
        simp only [V_cons, V_nil]
        omega)
      rw [set_app rfl, hc']
      rwa [List.length_append, List.length_singleton] at this
    have hlen : (done ++ y :: r).length = N := by simp at hr ⊢; omega
    refine ev_step ?_
    simp only [nat_Root.l1, hw, hlen]
    clear hw
    refine ev_pos (by omega) ?_
    have c1 : (0 : Int) ≤ c ∧ (c : Int) < 4294967296 := by omega
    by_cases h1 : done.length < Q.length
    · refine ev_pos (by omega) (ev_pos nn ?_)
      by_cases h2 : done.length < X.length
      · refine ev_pos (by omega) (ev_bind (add32_eq (by rw [hr2, hqd]; exact hq) (by rw [hr2, hxd]; exact hx) c1) (ev_pos (by omega) ?_))
        exact key _ (by rw [hr2, hr2, hqd, hxd])
      · have hx0 := hz X (by omega)
        refine ev_neg (by omega) (ev_bind (add32_eq (by rw [hr2, hqd]; exact hq) (by omega) c1) (ev_pos (by omega) ?_))
        exact key _ (by rw [hr2, hqd]; omega)
    · have hq0 := hz Q (by omega)
      refine ev_neg (by omega) ?_
      by_cases h2 : done.length < X.length
      · refine ev_pos (by omega) (ev_pos nn (ev_bind (add32_eq (by omega) (by rw [hr2, hxd]; exact hx) c1) (ev_pos (by omega) ?_)))
        exact key _ (by rw [hr2, hxd]; omega)
      · have hx0 := hz X (by omega)
        refine ev_neg (by omega) (ev_bind (add32_eq (by omega) (by omega) c1) (ev_pos nn (ev_pos (by omega) ?_)))
        exact key _ (by omega)
theorem sum_lt {q x Q X N : Nat} (hq : q < 4294967296 ^ Q) (hx : x < 4294967296 ^ X) (h1 : Q < N) (h2 : X < N) : q + x < 4294967296 ^ N := by
  obtain ⟨m, rfl⟩ := Nat.exists_eq_add_of_lt (show 0 < N by omega)
  have a : 4294967296 ^ Q ≤ 4294967296 ^ m := Nat.pow_le_pow_right (by omega) (by omega)
  have b : 4294967296 ^ X ≤ 4294967296 ^ m := Nat.pow_le_pow_right (by omega) (by omega)
  rw [Nat.zero_add, Nat.pow_succ]
  generalize 4294967296 ^ m = p at *
  omega
theorem root_l0 {A : List Int} (hA : Nm A) (lA : A.length ≤ 4096) (hp : 1 ≤ rt (V A)) : ∀ (x : Nat), 0 < x → rt (V A) ≤ x → (D x).length ≤ 4096 → Ev (fun k => nat_Root.l0 k A (D x)) (D (rt (V A)), decide (rt (V A) * rt (V A) = V A), 0)
  | x, hx, hge, hl => by
    have hq := nat_QuoRem_ev hA (Nm_D x) lA hl
    rw [V_D] at hq
    unfold quoR at hq
    rw [if_neg (by omega)] at hq
    refine ev_step ?_
    simp only [nat_Root.l0]
    refine Ev.bind hq ?_
    have lq : (D (V A / x)).length ≤ 4096 := Nat.le_trans (D_len_mono (Nat.div_le_self _ _)) (by rw [hA.len]; exact lA)
    simp only [mx_n]
    have hw : wrap64 (((max (D (V A / x)).length (D x).length : Nat) : Int) + 1) = ((max (D (V A / x)).length (D x).length + 1 : Nat) : Int) := w64s (by omega)
    rw [hw]
    clear hw
    generalize hN : max (D (V A / x)).length (D x).length + 1 = N
    refine ev_pos nn (ev_pos (by rw [Int.toNat_natCast]; omega) ?_)
    rw [Int.toNat_natCast]
    simp only [Option.bind_some, List.length_replicate]
    have hs := rt_spec (V A)
    have hsl := sum_lt (N := N) (lt_D_len (V A / x)) (lt_D_len x) (by omega) (by omega)
    have hd := nat_down_ev (Dg_D (V A / x + x)) (by have := D_lt hsl; omega) 1 (by omega)
    rw [V_D, Nat.pow_one] at hd
    have hnx : NextR A (D x) (V (D (V A / x)) + V (D x)) (D (rt (V A)), decide (rt (V A) * rt (V A) = V A), 0) := by
      rw [V_D, V_D]
      have hfl := newton_ge (a := V A) (r := rt (V A)) hx hs.1
      rw [Nat.add_comm x] at hfl
      have hyl : (D ((V A / x + x) / 2)).length < 4611686018427387904 := by
        have := D_len_mono (Nat.div_le_self (V A / x + x) 2)
        have := D_lt hsl
        omega
      unfold NextR
      refine Ev.bind hd (Ev.bind (nat_cmp_ev (Nm_D _) (Nm_D _) hyl) ?_)
      rw [V_D, V_D]
      by_cases hc : x ≤ (V A / x + x) / 2
      · have hxr := newton_stop (a := V A) (r := rt (V A)) hx hs.2 (by rw [Nat.add_comm x]; exact hc)
        have e : x = rt (V A) := by omega
        refine ev_pos (cmpN_ge.2 hc) ?_
        have hm := nat_mul_ev (Dg_D x) (Dg_D x) (by omega) (by omega)
        rw [V_D] at hm
        have lm : (D (x * x)).length ≤ 4096 := Nat.le_trans (D_len_mono (by rw [e]; exact hs.1)) (by rw [hA.len]; exact lA)
        refine Ev.bind hm (Ev.bind (nat_cmp_ev (Nm_D _) hA (by omega)) (ev_eq (Ev.now _) ?_))
        rw [V_D, ← e]
        have h1 := hs.1
        rw [← e] at h1
        have : (cmpN (x * x) (V A) == 0) = decide (x * x = V A) := by
          unfold cmpN
          by_cases h2 : x * x = V A
          · rw [h2]; simp
          · rw [if_pos (by omega), decide_eq_false h2]; rfl
        rw [this]
      · refine ev_neg (fun h => hc (cmpN_ge.1 h)) ?_
        exact root_l0 hA lA hp _ (by omega) hfl (Nat.le_trans (D_len_mono (by omega)) hl)
    have := root_l1 A (D x) (D (V A / x)) (Dg_D _) (Dg_D _) N (by omega) (by omega) (by omega) (by rw [V_D, V_D]; exact hsl) hnx N [] (List.replicate N 0) 0 (by simp) (by simp) (by omega) Dg.nil (by simp)
    simpa using this
termination_by x => x
decreasing_by omega
theorem rt_len {n L : Nat} (h : (D n).length ≤ L) : (D (rt n)).length ≤ L := by
  have h1 := (rt_spec n).1
  refine Nat.le_trans (D_len_mono ?_) h
  rcases Nat.eq_zero_or_pos (rt n) with h2 | h2
  · omega
  · have : rt n * 1 ≤ rt n * rt n := Nat.mul_le_mul_left _ h2
    omega
theorem rt_pos {n : Nat} (h : n ≠ 0) : 1 ≤ rt n := by
  have h1 := (rt_spec n).2
  rcases Nat.eq_zero_or_pos (rt n) with h2 | h2
  · rw [h2] at h1; omega
  · exact h2
theorem nat_Len_ev {l : List Int} (h : Nm l) (hb : l.length ≤ 4096) : nat_Len.f l = some ((bl (V l) : Nat) : Int) := by
  unfold nat_Len.f
  rw [nat_May_eq h.dg (by omega), Option.bind_some, if_pos (may_iff.2 ⟨hb, h⟩)]
  by_cases c : l.length = 0
  · have : l = [] := List.eq_nil_of_length_eq_zero c
    subst this
    rfl
  · rw [if_neg (by omega)]
    have e : wrap64 ((l.length : Int) - 1) = ((l.length - 1 : Nat) : Int) := by unfold wrap64; omega
    rw [e]
    clear e
    have hd := h.dg.getD (l.length - 1)
    rw [if_pos nn, if_pos (by omega), rdn, len32_eq hd, Option.bind_some]
    have hne : l ≠ [] := fun e => c (by rw [e]; rfl)
    rw [bl_V h hne]
    generalize l.getD (l.length - 1) 0 = x at hd
    have hbn : bl x.toNat ≤ 32 := bl_le_of_lt (by omega)
    generalize bl x.toNat = y at hbn
    congr 1
    have e1 : wrap64 (32 * ((l.length - 1 : Nat) : Int)) = ((32 * (l.length - 1) : Nat) : Int) := by unfold wrap64; omega
    rw [e1]
    clear e1
    unfold wrap64
    omega
theorem pow2_ge {n b : Nat} (h : n < 2 ^ b) : rt n ≤ 2 ^ ((b + 1) / 2) := by
  have h1 := (rt_spec n).1
  rcases Nat.lt_or_ge (2 ^ ((b + 1) / 2)) (rt n) with h2 | h2
  · have h3 : 2 ^ ((b + 1) / 2) * 2 ^ ((b + 1) / 2) ≤ rt n * rt n := Nat.mul_le_mul (by omega) (by omega)
    rw [← Nat.pow_add] at h3
    have h4 : 2 ^ b ≤ 2 ^ ((b + 1) / 2 + (b + 1) / 2) := Nat.pow_le_pow_right (by omega) (by omega)
    omega
  · exact h2
theorem start_len {b m : Nat} (h : b ≤ 32 * m) (hm : 1 ≤ m) : (D (2 ^ ((b + 1) / 2))).length ≤ m := by
  refine D_lt ?_
  have e : 4294967296 ^ m = 2 ^ (32 * m) := by rw [Nat.pow_mul]
  rw [e]
  exact Nat.pow_lt_pow_right (by omega) (by omega)
theorem nat_Root_ev {A : List Int} (hA : Nm A) (lA : A.length ≤ 4096) : Ev (fun k => nat_Root.f k A) ((rootR (V A)).1, (rootR (V A)).2, 0) := by
  unfold nat_Root.f
  refine ev_bind (nat_May_eq hA.dg (by omega)) (ev_pos (may_iff.2 ⟨lA, hA⟩) ?_)
  by_cases c : A = []
  · subst c
    refine ev_pos (by simp) (ev_eq (Ev.now _) ?_)
    simp [rootR, rt, D_zero]
  have c0 : A.length ≠ 0 := fun e => c (List.eq_nil_of_length_eq_zero e)
  have hv : V A ≠ 0 := fun e => c ((V_eq_zero hA).1 e)
  refine ev_neg (by omega) (ev_bind (nat_Len_ev hA lA) ?_)
  have hb : bl (V A) ≤ 32 * A.length := bl_list hA.dg
  have hlt := lt_bl (V A)
  generalize bl (V A) = n at hb hlt
  have ew : wrap64 ((n : Int) + 1) = ((n + 1 : Nat) : Int) := w64s (by omega)
  have ed : Int.tdiv (((n + 1 : Nat) : Int)) 2 = (((n + 1) / 2 : Nat) : Int) := rfl
  have e2 : wrap64 ((((n + 1) / 2 : Nat) : Int)) = (((n + 1) / 2 : Nat) : Int) := w64n (by omega) (by omega)
  rw [ew, ed, e2]
  clear ew ed e2
  have hu := nat_up_ev (a := [1]) (Dg.cons (by omega) (by omega) Dg.nil) (by simp) ((n + 1) / 2) (by omega)
  have v1 : V [1] = 1 := by simp
  rw [v1, Nat.one_mul] at hu
  refine Ev.bind hu ?_
  exact root_l0 hA lA (rt_pos hv) _ (pw_pos _) (pow2_ge hlt) (start_len (m := 4096) (by omega) (by omega))
theorem nat_Root_bad {a : List Int} (ha : Dg a) (la : a.length < 4611686018427387904) (h : may a = false) : Ev (fun k => nat_Root.f k a) ([], false, 2) := by
  unfold nat_Root.f
  refine ev_bind (nat_May_eq ha la) (ev_neg (by rw [h]; simp) (Ev.now _))
end Go.Proofs.Ytldcelgbinenbaa.K
