/- The first layer's plain functions: a number's decimal text. -/
import Derived.Test.YtldcelgbinenbaaQNatTextsKN6
set_option linter.unusedVariables false
set_option linter.unusedSimpArgs false
namespace Go.Proofs.Ytldcelgbinenbaa.K
open Go Go.RowKit Go.Proofs.Ytldcelgbinenbaa.Px Go.Proofs.YtldcelgbinenbaaW.PrintWords Go.Proofs.YtldcelgbinenbaaW.PrintLast Go.Proofs.YtldcelgbinenbaaW.PrintMore

theorem pd_len : ∀ (j n : Nat), (pd j n).length = j
  | 0, _ => rfl
  | j + 1, n => by simp [pd, pd_len j]
theorem tdiv10 {n : Int} (h : 0 ≤ n ∧ n < 4294967296) : (Int.tdiv n 10) % 4294967296 = n / 10 := by
  rw [Int.tdiv_eq_ediv_of_nonneg h.1]; omega
theorem tmod10 {n : Int} (h : 0 ≤ n) : Int.tmod n 10 = n % 10 := Int.tmod_eq_emod_of_nonneg h
theorem bl_div {n : Nat} (h : n ≠ 0) : bl (n / 1000000000) + 1 ≤ bl n := by
  rw [bl_step h]
  have : n / 1000000000 ≤ n / 2 := by omega
  have := bl_mono this
  omega
/-- nine digits after nine digits -/
def chunks (n : Nat) : List Int := if h : n = 0 then [] else pd 9 (n % 1000000000) ++ chunks (n / 1000000000)
termination_by n
decreasing_by omega
theorem chunks_zero : chunks 0 = [] := by unfold chunks; simp
theorem chunks_pos {n : Nat} (h : n ≠ 0) : chunks n = pd 9 (n % 1000000000) ++ chunks (n / 1000000000) := by
  conv => lhs; unfold chunks
  simp [h]
theorem chunks_eq : ∀ (n : Nat), ∃ m, chunks n = dcl n ++ List.replicate m 48 := by
  intro n
  induction n using Nat.strongRecOn with
  | _ n ih =>
    by_cases h : n = 0
    · exact ⟨0, by subst h; rw [chunks_zero, dcl_zero]; rfl⟩
    · rw [chunks_pos h]
      by_cases h1 : n / 1000000000 = 0
      · rw [h1, chunks_zero, List.append_nil, Nat.mod_eq_of_lt (by omega)]
        exact pd_short 9 n (by omega)
      · obtain ⟨m, hm⟩ := ih (n / 1000000000) (by omega)
        refine ⟨m, ?_⟩
        have := pd_high 9 n h1
        rw [hm, ← List.append_assoc]
        exact congrArg (· ++ List.replicate m 48) this
theorem text_l1 (q : List Int) {res : ByteArray × Int} : ∀ (j : Nat) (low : List Int) (r : Int), j ≤ 9 → 0 ≤ r ∧ r < 4294967296 → low.length + j < 1000000000000 → Ev (fun k => nat_Text.l0 k q (low ++ pd j r.toNat)) res → Ev (fun k => nat_Text.l1 k q low r ((9 - j : Nat) : Int)) res
  | 0, low, r, hj, hr, hl, H => by
    refine ev_step ?_
    simp only [nat_Text.l1]
    refine ev_neg (by omega) ?_
    simpa [pd] using H
  | j + 1, low, r, hj, hr, hl, H => by
    have e : wrap64 (((9 - (j + 1) : Nat) : Int) + 1) = ((9 - j : Nat) : Int) := by unfold wrap64; omega
    have e2 : (48 + Int.tmod r 10) % 256 = 48 + ((r.toNat % 10 : Nat) : Int) := by rw [tmod10 hr.1]; omega
    refine ev_step ?_
    simp only [nat_Text.l1, e, e2, tdiv10 hr]
    clear e e2
    refine ev_pos (by omega) (ev_pos (by omega) ?_)
    have hr10 : 0 ≤ r / 10 ∧ r / 10 < 4294967296 := by omega
    refine text_l1 q j _ _ (by omega) hr10 (by simp; omega) ?_
    have e3 : (r / 10).toNat = r.toNat / 10 := by omega
    rw [e3]
    simpa [pd] using H
theorem text_l0 {res : ByteArray × Int} : ∀ (n : Nat) (low : List Int), low.length + 9 * bl n < 100000000000 → (D n).length < 1000000000 → Ev (fun k => nat_Text.l2 k (low ++ chunks n)) res → Ev (fun k => nat_Text.l0 k (D n) low) res := by
  intro n
  induction n using Nat.strongRecOn with
  | _ n ih =>
    intro low hl hd H
    refine ev_step ?_
    simp only [nat_Text.l0]
    by_cases h : n = 0
    · subst h
      rw [chunks_zero, List.append_nil] at H
      refine ev_neg ?_ H
      rw [D_zero]; simp
    · refine ev_pos ?_ ?_
      · rw [D_pos h]; simp
      · refine Ev.bind (nat_small_ev (Dg_D n) hd (by omega)) ?_
        rw [V_D]
        have hb := bl_div h
        have hle : n / 1000000000 ≤ n := Nat.div_le_self _ _
        have hdl := D_len_mono hle
        have hm9 : 0 ≤ ((n % (1000000000 : Int).toNat : Nat) : Int) ∧ ((n % (1000000000 : Int).toNat : Nat) : Int) < 4294967296 := by
          rw [show (1000000000 : Int).toNat = 1000000000 from rfl]; omega
        refine text_l1 _ 9 low _ (by omega) hm9 (by omega) ?_
        refine ih (n / 1000000000) (by omega) _ ?_ (by omega) ?_
        · rw [List.length_append, pd_len]; omega
        · rw [chunks_pos h, ← List.append_assoc] at H
          exact H
/-- turned round in place -/
theorem text_l3 : ∀ (m : Nat) (p s q : List Int), s.length = m → (p ++ s ++ q).length < 1000000000000 → Ev (fun k => nat_Text.l3 k (p ++ s ++ q) p.length (((p.length + s.length : Nat) : Int) - 1)) (strOfNums (p ++ s.reverse ++ q), 0) := by
  intro m
  induction m using Nat.strongRecOn with
  | _ m ih =>
    intro p s q hs hl
    have hl2 : p.length + s.length + q.length < 1000000000000 := by simpa [Nat.add_assoc] using hl
    refine ev_step ?_
    simp only [nat_Text.l3]
    match s, hs with
    | [], hs => exact ev_neg (by simp; omega) (Ev.now _)
    | [x], hs => exact ev_neg (by simp) (Ev.now _)
    | x :: y :: t, hs =>
      obtain ⟨u, z, hu⟩ : ∃ u z, y :: t = u ++ [z] := by
        rcases List.eq_nil_or_concat (y :: t) with h | ⟨u, z, h⟩
        · simp at h
        · exact ⟨u, z, by rw [h, List.concat_eq_append]⟩
      rw [hu] at hs hl2 ⊢
      have hul : u.length + 2 = m := by simpa using hs
      have hlen : (x :: (u ++ [z])).length = u.length + 2 := by simp
      rw [hlen] at hl2 ⊢
      have e0 : ((p.length + (u.length + 2) : Nat) : Int) - 1 = ((p.length + 1 + u.length : Nat) : Int) := by omega
      rw [e0]
      have hL : (p ++ x :: (u ++ [z]) ++ q).length = p.length + u.length + 2 + q.length := by simp; omega
      rw [hL]
      have r1 : rd (p ++ x :: (u ++ [z]) ++ q) ((p.length : Nat) : Int) = x := by
        rw [List.append_assoc, List.cons_append]; exact rd_app rfl
      have r2 : rd (p ++ x :: (u ++ [z]) ++ q) ((p.length + 1 + u.length : Nat) : Int) = z := by
        have : p ++ x :: (u ++ [z]) ++ q = (p ++ x :: u) ++ z :: q := by simp
        rw [this]; exact rd_app (by simp; omega)
      have s1 : (p ++ x :: (u ++ [z]) ++ q).set ((p.length : Nat) : Int).toNat z = p ++ z :: (u ++ [z]) ++ q := by
        rw [List.append_assoc, List.cons_append, set_app rfl]; simp
      have s2 : (p ++ z :: (u ++ [z]) ++ q).set ((p.length + 1 + u.length : Nat) : Int).toNat x = (p ++ [z]) ++ u ++ (x :: q) := by
        have : p ++ z :: (u ++ [z]) ++ q = (p ++ z :: u) ++ z :: q := by simp
        rw [this, set_app (by simp; omega)]; simp
      rw [r1, r2, s1, s2, w64s (n := p.length) (by omega), w64m (by omega)]
      refine ev_pos (by omega) (ev_pos (by omega) (ev_pos (by omega) (ev_pos (by omega) (ev_pos (by omega) ?_))))
      have := ih u.length (by omega) (p ++ [z]) u (x :: q) rfl (by simp; omega)
      rw [List.length_append, List.length_singleton] at this
      have e1 : ((p.length + 1 + u.length : Nat) : Int) - 1 = ((p.length + 1 + u.length : Nat) : Int) - 1 := rfl
      refine ev_eq this ?_
      simp
theorem text_l2 {l : List Int} {d : Int} (hd : 48 < d) : ∀ (m : Nat), (l ++ [d]).length + m < 1000000000000 → Ev (fun k => nat_Text.l2 k (l ++ [d] ++ List.replicate m 48)) (strOfNums (l ++ [d]).reverse, 0)
  | 0, hl => by
    simp only [List.replicate_zero, List.append_nil]
    have e : wrap64 (((l ++ [d]).length : Int) - 1) = (((l ++ [d]).length : Nat) : Int) - 1 := w64m (by omega)
    refine ev_step ?_
    simp only [nat_Text.l2, e]
    clear e
    have hl1 : (l ++ [d]).length = l.length + 1 := by simp
    have hr : rd (l ++ [d]) (((l ++ [d]).length : Int) - 1) = d := rd_app (by omega)
    refine ev_pos (by omega) (ev_pos (by omega) (ev_neg (by rw [hr]; omega) ?_))
    have := text_l3 _ [] (l ++ [d]) [] rfl (by simp; omega)
    simpa using this
  | m + 1, hl => by
    rw [List.replicate_succ', ← List.append_assoc]
    have hX : ((l ++ [d]) ++ List.replicate m 48).length = (l ++ [d]).length + m := by rw [List.length_append, List.length_replicate]
    generalize hx : (l ++ [d]) ++ List.replicate m 48 = X at hX
    have hXl : (X ++ [48]).length = X.length + 1 := by simp
    have e : wrap64 (((X ++ [48]).length : Int) - 1) = (X.length : Int) := by rw [hXl]; exact w64p (by omega)
    refine ev_step ?_
    simp only [nat_Text.l2, e]
    clear e
    refine ev_pos (by omega) (ev_pos (by omega) (ev_pos (rd_app rfl) (ev_pos (by omega) ?_)))
    have ht : (X ++ [(48 : Int)]).take ((X.length : Int)).toNat = X := by simp
    rw [ht, ← hx]
    exact text_l2 hd m (by omega)
theorem V_pos {l : List Int} (h : Nm l) (h0 : l ≠ []) : V l ≠ 0 := fun e => h0 ((V_eq_zero h).1 e)
theorem bl_list {l : List Int} (h : Dg l) : bl (V l) ≤ 32 * l.length := by
  apply bl_le_of_lt
  have := V_lt h
  rwa [show (4294967296 : Nat) = 2 ^ 32 from rfl, ← Nat.pow_mul] at this
theorem nat_Text_ev {a : List Int} (h : Nm a) (hl : a.length ≤ 4096) : Ev (fun k => nat_Text.f k a) (strOfNums (txt (V a)), 0) := by
  unfold nat_Text.f
  refine ev_bind (nat_May_eq h.dg (by omega)) (ev_pos (may_iff.2 ⟨hl, h⟩) ?_)
  by_cases c : a.length = 0
  · have : a = [] := List.eq_nil_of_length_eq_zero c
    subst this
    exact ev_pos (by simp) (Ev.now _)
  · refine ev_neg (by omega) ?_
    have hne : a ≠ [] := fun e => c (by rw [e]; rfl)
    have h0 := V_pos h hne
    have hb := bl_list h.dg
    obtain ⟨l, d, e, hd⟩ := dcl_last (V a) h0
    obtain ⟨m, hm⟩ := chunks_eq (V a)
    have hml : (chunks (V a)).length < 100000000000 := by
      have : ∀ n, (chunks n).length ≤ 9 * bl n := by
        intro n
        induction n using Nat.strongRecOn with
        | _ n ih =>
          by_cases h : n = 0
          · subst h; rw [chunks_zero]; simp
          · rw [chunks_pos h, List.length_append, pd_len]
            have := ih (n / 1000000000) (by omega)
            have := bl_div h
            omega
      have := this (V a)
      omega
    have key := text_l0 (res := (strOfNums (txt (V a)), 0)) (V a) [] (by simp; omega) (by rw [h]; omega) ?_
    · rwa [h] at key
    · rw [List.nil_append, hm, e]
      have ht : txt (V a) = (l ++ [d]).reverse := by unfold txt; rw [if_neg h0, e]
      rw [ht]
      refine text_l2 hd.1 m ?_
      rw [hm, e, List.length_append, List.length_replicate] at hml
      omega
theorem nat_Text_bad {a : List Int} (h : Dg a) (hl : a.length < 4611686018427387904) (hm : may a = false) : Ev (fun k => nat_Text.f k a) (⟨#[]⟩, 2) := by
  unfold nat_Text.f
  refine ev_bind (nat_May_eq h hl) ?_
  rw [hm]
  exact ev_neg (by simp) (Ev.now _)

/-! ### the reference's text: digit by digit to the front -/
theorem ext_digit {r : Int} (h : 0 ≤ r ∧ r < 4294967296) : bytesOf ((⟨#[48, 49, 50, 51, 52, 53, 54, 55, 56, 57]⟩ : ByteArray).extract ((Int.tmod r 10) : Int).toNat ((((Int.tmod r 10) + 1) % 4294967296) : Int).toNat) = [48 + ((r.toNat % 10 : Nat) : Int)] := by
  rw [tmod10 h.1]
  have e1 : (r % 10).toNat = r.toNat % 10 := by omega
  have e2 : (((r % 10) + 1) % 4294967296).toNat = r.toNat % 10 + 1 := by omega
  rw [e1, e2]
  exact digit_text (by omega)
theorem bs_size (s : ByteArray) : s.size = (bytesOf s).length := by rw [bytesOf_length]
theorem rtext_l1 {n : Nat} :
    ∀ (j : Nat) (s : ByteArray) (r : Nat), j ≤ 9 → r < 10 ^ j → r < 4294967296 → s.size + j < 1000000000000 →
    ∃ u, bytesOf u = (if n = 0 then dcl r else pd j r).reverse ++ bytesOf s ∧ u.size ≤ s.size + j ∧ ∀ res, Ev (fun k => cutplaneref01_Text.l0 k (D n) u) res → Ev (fun k => cutplaneref01_Text.l1 k (D n) s (r : Int) ((9 - j : Nat) : Int)) res
  | 0, s, r, hj, hr, hr2, hs => by
    have : r = 0 := by simpa using hr
    subst this
    refine ⟨s, by rw [dcl_zero]; simp [pd], by omega, fun res h => ?_⟩
    refine ev_step ?_
    simp only [cutplaneref01_Text.l1]
    exact ev_neg (by omega) h
  | j + 1, s, r, hj, hr, hr2, hs => by
    have e : wrap64 (((9 - (j + 1) : Nat) : Int) + 1) = ((9 - j : Nat) : Int) := by unfold wrap64; omega
    have hx := ext_digit (r := (r : Int)) (by omega)
    have hd : Int.tdiv (r : Int) 10 % 4294967296 = ((r / 10 : Nat) : Int) := by rw [tdiv10 (by omega)]; omega
    generalize hE : (⟨#[48, 49, 50, 51, 52, 53, 54, 55, 56, 57]⟩ : ByteArray).extract ((Int.tmod (r : Int) 10) : Int).toNat ((((Int.tmod (r : Int) 10) + 1) % 4294967296) : Int).toNat = E at hx
    have hEs : E.size = 1 := by rw [bs_size, hx]; rfl
    have hm := tmod10 (n := (r : Int)) (by omega)
    obtain ⟨u, h1, h2, h3⟩ := rtext_l1 j (E ++ s) (r / 10) (by omega) (by rw [Nat.pow_succ] at hr; omega) (by omega) (by rw [ByteArray.size_append]; omega)
    have hsz : E.size + s.size ≤ 9223372036854775807 := by omega
    by_cases c : n = 0
    · by_cases c2 : r = 0
      · subst c2
        refine ⟨s, by rw [if_pos c, dcl_zero]; simp, by omega, fun res h => ?_⟩
        refine ev_step ?_
        simp only [cutplaneref01_Text.l1]
        refine ev_pos (by omega) (ev_neg (by rw [c, D_zero]; simp) (ev_neg (by omega) h))
      · refine ⟨u, ?_, by rw [ByteArray.size_append] at h2; omega, fun res h => ?_⟩
        · rw [h1, if_pos c, if_pos c, bs_app, hx, dcl_pos c2]; simp
        · refine ev_step ?_
          simp only [cutplaneref01_Text.l1, hE, e, hd]
          clear e
          refine ev_pos (by omega) (ev_neg (by rw [c, D_zero]; simp) (ev_pos (by omega) (ev_pos (by omega) (ev_pos (by omega) (ev_pos (by omega) (ev_pos hsz ?_))))))
          exact h3 res h
    · refine ⟨u, ?_, by rw [ByteArray.size_append] at h2; omega, fun res h => ?_⟩
      · rw [h1, if_neg c, if_neg c, bs_app, hx, pd]; simp
      · refine ev_step ?_
        simp only [cutplaneref01_Text.l1, hE, e, hd]
        clear e
        refine ev_pos (by omega) (ev_pos (by rw [D_pos c]; simp) (ev_pos (by omega) (ev_pos (by omega) (ev_pos (by omega) (ev_pos hsz ?_)))))
        exact h3 res h
theorem rtext_l0 : ∀ (n : Nat) (s : ByteArray), s.size + 9 * bl n < 100000000000 → (D n).length < 1000000000 → ∃ u, bytesOf u = (dcl n).reverse ++ bytesOf s ∧ Ev (fun k => cutplaneref01_Text.l0 k (D n) s) u := by
  intro n
  induction n using Nat.strongRecOn with
  | _ n ih =>
    intro s hl hd
    by_cases h : n = 0
    · subst h
      refine ⟨s, by rw [dcl_zero]; simp, ev_step ?_⟩
      simp only [cutplaneref01_Text.l0]
      exact ev_neg (by rw [D_zero]; simp) (Ev.now _)
    · have hb := bl_div h
      have hdl := D_len_mono (Nat.div_le_self n 1000000000)
      obtain ⟨u, h1, h2, h3⟩ := rtext_l1 (n := n / 1000000000) 9 s (n % 1000000000) (by omega) (by omega) (by omega) (by omega)
      obtain ⟨v, h4, h5⟩ := ih (n / 1000000000) (by omega) u (by omega) (by omega)
      refine ⟨v, ?_, ev_step ?_⟩
      · rw [h4, h1]
        by_cases c : n / 1000000000 = 0
        · rw [if_pos c, c, dcl_zero, Nat.mod_eq_of_lt (by omega)]; simp
        · rw [if_neg c]
          have := pd_high 9 n c
          rw [← List.append_assoc, ← List.reverse_append]
          exact congrArg (fun l => l.reverse ++ bytesOf s) this
      · simp only [cutplaneref01_Text.l0]
        refine ev_pos (by rw [D_pos h]; simp) ?_
        refine Ev.bind (ref_byDigit_ev (Dg_D n) hd (by omega)) ?_
        rw [V_D, show (1000000000 : Int).toNat = 1000000000 from rfl]
        have go : Ev (fun k => cutplaneref01_Text.j1 k (D (n / 1000000000)) s ((n % 1000000000 : Nat) : Int)) v := by
          refine ev_step ?_
          simp only [cutplaneref01_Text.j1]
          exact h3 v h5
        by_cases c : n % 1000000000 = 0
        · refine ev_neg (by rw [c, D_zero]; simp) ?_
          rw [c] at go; exact go
        · have e : D (n % 1000000000) = [((n % 1000000000 : Nat) : Int)] := by
            rw [D_pos c, Nat.div_eq_of_lt (by omega), D_zero, Nat.mod_eq_of_lt (by omega)]
          refine ev_pos (by rw [e]; simp) (ev_pos (by rw [e]; simp) ?_)
          have hr : rd (D (n % 1000000000)) 0 = ((n % 1000000000 : Nat) : Int) := by rw [e]; rfl
          rw [hr]; exact go
theorem ref_Text_ev {a : List Int} (h : Nm a) (hl : a.length ≤ 4096) : Ev (fun k => cutplaneref01_Text.f k a) (strOfNums (txt (V a))) := by
  unfold cutplaneref01_Text.f
  by_cases c : a.length = 0
  · have : a = [] := List.eq_nil_of_length_eq_zero c
    subst this
    exact ev_pos (by simp) (Ev.now _)
  · refine ev_neg (by omega) ?_
    have hne : a ≠ [] := fun e => c (by rw [e]; rfl)
    have h0 := V_pos h hne
    have hb := bl_list h.dg
    obtain ⟨u, h1, h2⟩ := rtext_l0 (V a) ⟨#[]⟩ (by show 0 + _ < _; omega) (by rw [h]; omega)
    rw [h] at h2
    refine ev_eq h2 (bs_inj ?_)
    rw [h1, bs_str _ (fun x hx => by have := txt_range _ x hx; omega)]
    have e : bytesOf (⟨#[]⟩ : ByteArray) = [] := rfl
    unfold txt
    rw [e, if_neg h0, List.append_nil]
end Go.Proofs.Ytldcelgbinenbaa.K
