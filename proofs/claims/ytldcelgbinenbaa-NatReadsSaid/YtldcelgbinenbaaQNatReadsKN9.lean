/- The first layer's plain functions: the reference's reading of a text; a number's text says the number, and back. -/
import Derived.Test.YtldcelgbinenbaaQNatReadsKN8
set_option linter.unusedVariables false
set_option linter.unusedSimpArgs false
namespace Go.Proofs.Ytldcelgbinenbaa.K
open Go Go.RowKit Go.Proofs.Ytldcelgbinenbaa.Px Go.Proofs.YtldcelgbinenbaaW.PrintWords Go.Proofs.YtldcelgbinenbaaW.PrintLast Go.Proofs.YtldcelgbinenbaaW.PrintMore

section
variable (s : ByteArray)
end
theorem pv_head {c : Int} {l : List Int} : pv (c :: l) = (c - 48).toNat * 10 ^ l.length + pv l := by
  have := pv_app [c] l
  simpa [pv, pvA] using this
theorem pv_ge {l : List Int} (hd : digs l) (h0 : l.getD 0 0 ≠ 48) (hl : l ≠ []) : 10 ^ (l.length - 1) ≤ pv l := by
  cases l with
  | nil => exact absurd rfl hl
  | cons c l =>
    have hc := hd c (by simp)
    have h1 : c ≠ 48 := by simpa using h0
    rw [pv_head]
    have : 1 * 10 ^ l.length ≤ (c - 48).toNat * 10 ^ l.length := Nat.mul_le_mul_right _ (by omega)
    simp; omega
/-! ### there and back -/
theorem pv_dcl : ∀ (n : Nat), pv (dcl n).reverse = n := by
  intro n
  induction n using Nat.strongRecOn with
  | _ n ih =>
    by_cases h : n = 0
    · subst h; rw [dcl_zero]; rfl
    · rw [dcl_pos h, List.reverse_cons, pv_snoc, ih _ (by omega)]; omega
theorem pv_txt (n : Nat) : pv (txt n) = n := by
  unfold txt
  split
  · subst n; rfl
  · exact pv_dcl n
theorem isT_txt (n : Nat) : isT (txt n) = true := by
  unfold isT
  rw [decide_eq_true (show digs (txt n) from txt_range n), Bool.true_and]
  unfold txt
  by_cases h : n = 0
  · rw [if_pos h]; rfl
  · rw [if_neg h]
    obtain ⟨l, d, e, hd⟩ := dcl_last n h
    rw [e, List.reverse_append, List.reverse_singleton, List.singleton_append]
    by_cases h2 : l = []
    · subst h2; simp
    · have : l.length ≠ 0 := fun e' => h2 (List.eq_nil_of_length_eq_zero e')
      simp; omega
theorem dcl_snoc {n : Nat} {c : Int} (hc : 48 ≤ c ∧ c ≤ 57) (h : n ≠ 0 ∨ c ≠ 48) : dcl (10 * n + (c - 48).toNat) = c :: dcl n := by
  rw [dcl_pos (by omega)]
  congr 1
  · omega
  · congr 1; omega
theorem dcl_pv : ∀ (m : Nat) (l : List Int), l.length = m → digs l → l.getD 0 0 ≠ 48 → dcl (pv l) = l.reverse
  | 0, l, hm, _, _ => by
    have : l = [] := List.eq_nil_of_length_eq_zero hm
    subst this; simp [pv, pvA, dcl_zero]
  | m + 1, l, hm, hd, h0 => by
    rcases List.eq_nil_or_concat l with rfl | ⟨a, c, rfl⟩
    · simp at hm
    rw [List.concat_eq_append] at hm hd h0 ⊢
    have hc := hd c (by simp)
    have hda : digs a := fun x hx => hd x (by simp [hx])
    rw [pv_snoc, List.reverse_append, List.reverse_singleton, List.singleton_append]
    by_cases ha : a = []
    · subst ha
      have : c ≠ 48 := by simpa using h0
      rw [dcl_snoc hc (.inr this)]; simp [pv, pvA, dcl_zero]
    · have h1 : a.getD 0 0 ≠ 48 := by
        cases a with
        | nil => exact absurd rfl ha
        | cons x a => simpa using h0
      have h2 := pv_ge hda h1 ha
      have : 1 ≤ 10 ^ (a.length - 1) := Nat.one_le_pow _ _ (by omega)
      rw [dcl_snoc hc (.inl (by omega)), dcl_pv m a (by simpa using hm) hda h1]
theorem txt_pv {l : List Int} (h : isT l = true) : txt (pv l) = l := by
  unfold isT at h
  simp only [Bool.and_eq_true, Bool.or_eq_true, decide_eq_true_eq] at h
  obtain ⟨hd, h⟩ := h
  by_cases h0 : l.getD 0 0 = 48
  · have h1 : l.length = 1 := by
      rcases h with h | h
      · exact h
      · exact absurd h0 h.2
    match l, h1 with
    | [c], _ =>
      have : c = 48 := by simpa using h0
      subst this; rfl
  · have hl : l ≠ [] := by rintro rfl; simp at h
    have h2 := pv_ge hd h0 hl
    have h3 : 1 ≤ 10 ^ (l.length - 1) := Nat.one_le_pow _ _ (by omega)
    unfold txt
    rw [if_neg (by omega), dcl_pv _ l rfl hd h0, List.reverse_reverse]
theorem bs_txt (n : Nat) : bytesOf (strOfNums (txt n)) = txt n := bs_str _ (fun x hx => by have := txt_range n x hx; omega)
theorem str_bs (s : ByteArray) : strOfNums (bytesOf s) = s := by
  apply bs_inj
  exact bs_str _ (fun x hx => by
    unfold bytesOf at hx
    obtain ⟨b, _, rfl⟩ := List.mem_map.1 hx
    have := b.toNat_lt
    omega)
end Go.Proofs.Ytldcelgbinenbaa.K
