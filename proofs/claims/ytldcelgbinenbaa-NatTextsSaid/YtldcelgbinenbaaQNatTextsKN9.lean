/- The first layer's plain functions: the reference's reading of a text; a number's text says the number, and back. -/
import Derived.Test.YtldcelgbinenbaaQNatTextsKN8
set_option linter.unusedVariables false
set_option linter.unusedSimpArgs false
namespace Go.Proofs.Ytldcelgbinenbaa.K
open Go Go.RowKit Go.Proofs.Ytldcelgbinenbaa.Px Go.Proofs.YtldcelgbinenbaaW.PrintWords Go.Proofs.YtldcelgbinenbaaW.PrintLast Go.Proofs.YtldcelgbinenbaaW.PrintMore

section
variable (s : ByteArray)
theorem rparse_l1 (i : Nat) (hi : i < 1000000000) {res : List Int × Int} (full : List Int) : ∀ (l done : List Int) (c : Nat), c < 10 → Dg l → done.length + l.length < 1000000000 → full = done ++ maRec l 10 c →
    (Ev (fun k => cutplaneref01_Parse.l0 k s full ((i + 1 : Nat) : Int)) res) →
    Ev (fun k => cutplaneref01_Parse.l1 k s (done ++ l) i c done.length) res
  | [], done, c, hc, hg, hl, hfull, H => by
    refine ev_step ?_
    simp only [cutplaneref01_Parse.l1, w64s (n := i) (by omega)]
    refine ev_neg (by simp) ?_
    rw [List.append_nil]
    by_cases h0 : c = 0
    · have e : full = done := by rw [hfull]; simp [maRec, h0]
      rw [e] at H
      exact ev_neg (by omega) H
    · have e : full = done ++ [((c : Nat) : Int) % 4294967296] := by
        rw [hfull]; simp [maRec, h0]; omega
      rw [e] at H
      exact ev_pos (by omega) (ev_pos (by simp at hl; omega) H)
  | x :: l, done, c, hc, hg, hl, hfull, H => by
    have hx := hg.head
    have hb := ma_bd (x := x.toNat) (by omega) hc
    have hu : IntKind.u64.wrap ((c : Int) + IntKind.u64.wrap (10 * IntKind.u64.wrap x)) = ((x.toNat * 10 + c : Nat) : Int) := by
      rw [u64 (n := x) (by omega) (by omega), u64 (n := 10 * x) (by omega) (by omega), u64 (by omega) (by omega)]; omega
    have hn := nd (x.toNat * 10 + c)
    have hr : rd (done ++ x :: l) (done.length : Int) = x := rd_app rfl
    refine ev_step ?_
    simp only [cutplaneref01_Parse.l1, hr, hu, hn.1, hn.2, set_app rfl, w64s (n := done.length) (by simp at hl; omega)]
    clear hu hn
    refine ev_pos (by simp; omega) (ev_pos (by omega) ?_)
    have := rparse_l1 i hi full l (done ++ [((((x.toNat * 10 + c) % 4294967296 : Nat)) : Int)]) _ hb hg.tail (by simp at hl ⊢; omega) (by rw [hfull, maRec]; simp) H
    rw [List.length_append, List.length_singleton] at this
    exact this
theorem rparse_l0 (hd : digs (bytesOf s)) (hs : s.size < 10000000) : ∀ (r i : Nat), i + r = s.size → Ev (fun k => cutplaneref01_Parse.l0 k s (D (pv ((bytesOf s).take i))) i) (bound (pv (bytesOf s)))
  | 0, i, hi => by
    have hlen : (bytesOf s).length = s.size := bytesOf_length s
    have e : (bytesOf s).take i = bytesOf s := List.take_of_length_le (by omega)
    refine ev_step ?_
    simp only [cutplaneref01_Parse.l0]
    refine ev_neg (by omega) ?_
    rw [e]
    unfold bound
    by_cases c : (D (pv (bytesOf s))).length > 4096
    · rw [if_pos c]; exact ev_pos (by omega) (Ev.now _)
    · rw [if_neg c]; exact ev_neg (by omega) (Ev.now _)
  | r + 1, i, hi => by
    have hlen : (bytesOf s).length = s.size := bytesOf_length s
    have hm := hd _ (getD_mem (l := bytesOf s) (i := i) (by omega))
    refine ev_step ?_
    simp only [cutplaneref01_Parse.l0, bt_get]
    refine ev_pos (by omega) (ev_pos (by omega) ?_)
    have hb : ((bytesOf s).getD i 0 - 48) % 256 = (((bytesOf s).getD i 0 - 48).toNat : Int) := by omega
    rw [hb]
    have hl : (D (pv ((bytesOf s).take i))).length < 100000000 := by
      have h1 := pv_lt (l := (bytesOf s).take i) (fun x hx => hd x (List.mem_of_mem_take hx))
      have h2 : ((bytesOf s).take i).length = i := by rw [List.length_take]; omega
      rw [h2] at h1
      have h3 : (10 : Nat) ^ i ≤ 4294967296 ^ i := Nat.pow_le_pow_left (by omega) i
      have := D_len_lt (Nat.lt_of_lt_of_le h1 h3)
      omega
    have hmd := maRec_D (n := pv ((bytesOf s).take i)) (t := 10) (c := ((bytesOf s).getD i 0 - 48).toNat) (by omega) (by omega)
    have hv : pv ((bytesOf s).take (i + 1)) = pv ((bytesOf s).take i) * 10 + ((bytesOf s).getD i 0 - 48).toNat := by
      rw [List.take_succ_eq_append_getElem (by omega), pv_snoc, Nat.mul_comm]
      simp [show i < (bytesOf s).length by omega]
    have := rparse_l1 s i (by omega) (res := bound (pv (bytesOf s))) (D (pv ((bytesOf s).take (i + 1)))) (D (pv ((bytesOf s).take i))) [] _ (show ((bytesOf s).getD i 0 - 48).toNat < 10 by omega) (Dg_D _) (by simp; omega) (by rw [hmd, hv]; rfl) (rparse_l0 hd hs r (i + 1) (by omega))
    simpa using this
theorem ristext_l0 (hs : s.size < 10000000000) : ∀ (r i : Nat), i + r = s.size → (∀ j, j < i → 48 ≤ (bytesOf s).getD j 0 ∧ (bytesOf s).getD j 0 ≤ 57) → Ev (fun k => cutplaneref01_IsText.l0 k s i) (isT (bytesOf s))
  | 0, i, hi, hj => by
    have hlen : (bytesOf s).length = s.size := bytesOf_length s
    have hd : digs (bytesOf s) := by
      intro x hx
      obtain ⟨j, hj', rfl⟩ := List.getElem_of_mem hx
      have := hj j (by omega)
      simpa [hj'] using this
    refine ev_step ?_
    simp only [cutplaneref01_IsText.l0]
    refine ev_neg (by omega) ?_
    unfold isT
    rw [hlen, decide_eq_true hd, Bool.true_and]
    by_cases c1 : s.size = 1
    · refine ev_pos (by omega) (ev_eq (Ev.now _) ?_)
      simp [c1]
    · refine ev_neg (by omega) ?_
      by_cases c2 : s.size > 1
      · refine ev_pos (by omega) (ev_pos (by omega) (ev_eq (Ev.now _) ?_))
        have e : bt s 0 = (bytesOf s).getD 0 0 := bt_get s 0
        rw [e, decide_eq_false c1, decide_eq_true c2, Bool.false_or, Bool.true_and]
        by_cases c3 : (bytesOf s).getD 0 0 = 48
        · rw [c3]; decide
        · rw [decide_eq_true c3]; simp only [bne_iff_ne]; exact c3
      · refine ev_neg (by omega) (ev_eq (Ev.now _) ?_)
        rw [decide_eq_false c1, decide_eq_false c2]; rfl
  | r + 1, i, hi, hj => by
    have hlen : (bytesOf s).length = s.size := bytesOf_length s
    have hm := getD_mem (l := bytesOf s) (i := i) (by omega)
    have no : ¬ digs (bytesOf s) → isT (bytesOf s) = false := by intro h; unfold isT; rw [decide_eq_false h]; rfl
    refine ev_step ?_
    simp only [cutplaneref01_IsText.l0, bt_get, w64s (n := i) (by omega)]
    refine ev_pos (by omega) (ev_pos (by omega) ?_)
    by_cases c1 : (bytesOf s).getD i 0 < 48
    · refine ev_pos c1 (ev_eq (Ev.now _) ?_)
      exact (no (fun hd => by have := hd _ hm; omega)).symm
    · refine ev_neg c1 ?_
      by_cases c2 : (bytesOf s).getD i 0 > 57
      · refine ev_pos c2 (ev_eq (Ev.now _) ?_)
        exact (no (fun hd => by have := hd _ hm; omega)).symm
      · refine ev_neg c2 (ristext_l0 hs r (i + 1) (by omega) ?_)
        intro j hj'
        by_cases e : j = i
        · subst e; omega
        · exact hj j (by omega)
end
theorem pv_head {c : Int} {l : List Int} : pv (c :: l) = (c - 48).toNat * 10 ^ l.length + pv l := by
  have := pv_app [c] l
  simpa [pv, pvA] using this
theorem pv_ge {l : List Int} (hd : digs l) (h0 : l.getD 0 0 ≠ 48) (hl : l ≠ []) : 10 ^ (l.length - 1) ≤ pv l := by
  cases l with
  | nil => exact absurd rfl hl
  | cons c l =>
    have hc := hd c (by simp)
    have h1 : c ≠ 48 := by simpa using h0
    rw [pv_head]
    have : 1 * 10 ^ l.length ≤ (c - 48).toNat * 10 ^ l.length := Nat.mul_le_mul_right _ (by omega)
    simp; omega
def tenTwo (a b : Nat) : Bool := Nat.ble (2 ^ a) (10 ^ b)
theorem ten_big : tenTwo 131072 39457 = true := by decide +kernel
theorem long_text {l : List Int} (h : isT l = true) (hl : 39457 < l.length) : bound (pv l) = ([], 3) := by
  unfold isT at h
  simp only [Bool.and_eq_true, Bool.or_eq_true, decide_eq_true_eq] at h
  obtain ⟨hd, h | h⟩ := h
  · omega
  · have h1 := pv_ge hd h.2 (fun e => by rw [e] at hl; simp at hl)
    have key : ∀ a b, a = 131072 → b = 39457 → tenTwo a b = true → bound (pv l) = ([], 3) := by
      intro a b ha hb hab'
      have hab : 2 ^ a ≤ 10 ^ b := Nat.le_of_ble_eq_true hab'
      have h3 : 10 ^ b ≤ 10 ^ (l.length - 1) := Nat.pow_le_pow_right (by omega) (by omega)
      exact two_pow_le (e := a) (by omega) (Nat.le_trans hab (Nat.le_trans h3 h1))
    exact key 131072 39457 rfl rfl ten_big
theorem ref_Parse_ev (s : ByteArray) (hs : s.size < 10000000) : Ev (fun k => cutplaneref01_Parse.f k s) (parsed (bytesOf s)) := by
  have hlen : (bytesOf s).length = s.size := bytesOf_length s
  unfold cutplaneref01_Parse.f parsed
  refine Ev.bind (?_ : Ev (fun k => cutplaneref01_IsText.f k s) (isT (bytesOf s))) ?_
  · exact ristext_l0 s (by omega) s.size 0 (by omega) (fun j hj => by omega)
  · by_cases c : isT (bytesOf s) = true
    · refine ev_pos c ?_
      rw [if_pos c]
      by_cases c2 : s.size > 39457
      · refine ev_pos (by omega) (ev_eq (Ev.now _) ?_)
        exact (long_text c (by omega)).symm
      · have hd : digs (bytesOf s) := by
          unfold isT at c; simp only [Bool.and_eq_true, decide_eq_true_eq] at c; exact c.1
        refine ev_neg (by omega) ?_
        have := rparse_l0 s hd hs s.size 0 (by omega)
        simpa [pv, pvA, D_zero] using this
    · refine ev_neg c (ev_eq (Ev.now _) ?_)
      rw [if_neg c]
/-! ### there and back -/
end Go.Proofs.Ytldcelgbinenbaa.K
