import Derived.Test.YtbcjdlljmhfhdaaGreatDoorQHexaReadsK1
set_option linter.unusedVariables false
set_option linter.unusedSimpArgs false
/- Rounding far beyond the format's ends: the exponent may be brought near. -/
set_option linter.unusedVariables false
namespace Go.Proofs.YtbcjdlljmhfhdaaGreatDoor.Eng.K
open Go.RowKit
theorem roundS_over {f m : Int} {s : Bool} {n : Nat} {e : Int} (h : isF f) (hn : n ≠ 0) (ht : e + (bl n : Nat) > wd f) : roundS f m s n e = ((overW f m s : Int), 20) := by
  have hp := pr_eq h
  have hl := lo_b h
  have hw : 128 ≤ wd f := by rcases h with rfl | rfl <;> decide
  have hu : unitR f n e ≤ e + (bl n : Nat) - 1 := by unfold unitR; omega
  have hm := (R_mono_top (m := m) (s := s) hn hu).1
  show (if (bl (R m s n e (unitR f n e)) : Int) + unitR f n e > wd f then _ else _) = _
  rw [if_pos (by omega)]
/-- what is left of a number far below the unit -/
def tinyQ (m : Int) (s : Bool) : Nat := if upB m s false false true = true then 1 else 0
theorem rnd_tiny (m : Int) (s : Bool) {n k : Nat} (hn : n ≠ 0) (h : 2 * n < 2 ^ k) : rnd m s n k = tinyQ m s := by
  unfold rnd tinyQ
  rw [Nat.div_eq_of_lt (by omega), Nat.mod_eq_of_lt (by omega : n < 2 ^ k), Nat.mod_eq_of_lt h, Nat.zero_add]
  have e1 : decide (2 ^ k ≤ 2 * n) = false := decide_eq_false (by omega)
  have e2 : decide (2 * n ≠ 0) = true := decide_eq_true (by omega)
  rw [e1, e2]
  rfl
theorem roundS_tiny {f m : Int} {s : Bool} {n : Nat} {e : Int} (h : isF f) (hn : n ≠ 0) (ht : e + (bl n : Nat) < lo f) :
    roundS f m s n e = ((((if tinyQ m s = 0 then 0 else encN f (tinyQ m s) (lo f)) + sgn f s : Nat) : Int), 24) := by
  have hp := pr_eq h
  have hl := lo_b h
  have hw : 128 ≤ wd f := by rcases h with rfl | rfl <;> decide
  have hu : unitR f n e = lo f := by unfold unitR; omega
  obtain ⟨k, hk⟩ : ∃ k : Nat, (lo f - e).toNat = k := ⟨_, rfl⟩
  have hk1 : bl n + 1 ≤ k := by omega
  have h2 : 2 * n < 2 ^ k := by
    have h3 := lt_bl n
    have h4 : 2 ^ (bl n + 1) ≤ 2 ^ k := Nat.pow_le_pow_right (by omega) hk1
    rw [Nat.pow_succ] at h4
    omega
  have hR : R m s n e (lo f) = tinyQ m s := by
    unfold R
    rw [show (e - lo f).toNat = 0 by omega, hk, Nat.pow_zero, Nat.mul_one]
    exact rnd_tiny m s hn h2
  have hx : exR n e (lo f) = false := by
    unfold exR
    rw [hk, Nat.mod_eq_of_lt (by omega)]
    exact decide_eq_false hn
  have hm := (R_mono_top (m := m) (s := s) hn (show e + (bl n : Nat) - (pr f : Nat) ≤ e + (bl n : Nat) - 1 by omega)).2
  have hb : bl (tinyQ m s) ≤ 1 := by unfold tinyQ; split <;> decide
  show (if (bl (R m s n e (unitR f n e)) : Int) + unitR f n e > wd f then _ else _) = _
  rw [hu, hR, hx, if_neg (show ¬ ((bl (tinyQ m s) : Int) + lo f > wd f) by omega), if_neg (show ¬ (false = true) by simp), if_pos (show (bl (R m s n e (e + (bl n : Nat) - (pr f : Nat))) : Int) + (e + (bl n : Nat) - (pr f : Nat)) < lo f + (pr f : Nat) by omega)]
def clampE (e : Int) : Int := if e > 9000 then 9000 else if e < -9000 then -9000 else e
theorem roundS_clamp {f m : Int} {s : Bool} {n : Nat} {e : Int} (h : isF f) (hn : n ≠ 0) (hb : bl n ≤ 4800) : roundS f m s n (clampE e) = roundS f m s n e := by
  have hl := lo_b h
  have hw : wd f ≤ 1024 := by rcases h with rfl | rfl <;> decide
  have hp := bl_pos hn
  unfold clampE
  by_cases c1 : e > 9000
  · rw [if_pos c1, roundS_over h hn (by omega), roundS_over h hn (by omega)]
  · rw [if_neg c1]
    by_cases c2 : e < -9000
    · rw [if_pos c2, roundS_tiny h hn (by omega), roundS_tiny h hn (by omega)]
    · rw [if_neg c2]
/-- what a number's digits and exponent come to -/
def hexN (f m : Int) (s : Bool) (x : Nat × Int) : Int × Int × Int := if x.1 = 0 then ((sgn f s : Int), 0, 0) else ((roundS f m s x.1 x.2).1, (roundS f m s x.1 x.2).2, 0)
def negT : List UInt8 → Bool
  | 45 :: _ => true
  | _ => false
def bodyT : List UInt8 → List UInt8
  | 45 :: r => r
  | r => r
def hexO (f m : Int) (s : Bool) : Option (Nat × Int) → Int × Int × Int
  | some x => hexN f m s x
  | none => (0, 0, 12)
/-- a text's word, flags and error -/
def hexB (f m : Int) (s : Bool) (l : List UInt8) : Int × Int × Int :=
  if l = [105, 110, 102] then (((mo f * 2 ^ fb f + sgn f s : Nat) : Int), 0, 0)
  else if l.take 2 = [48, 120] then hexO f m s (readS (l.drop 2)) else (0, 0, 12)
def hexS (f m : Int) (l : List UInt8) : Int × Int × Int :=
  if 1200 < l.length then (0, 0, 3) else if l = [110, 97, 110] then ((nanW f : Int), 0, 0) else hexB f m (negT l) (bodyT l)
end Go.Proofs.YtbcjdlljmhfhdaaGreatDoor.Eng.K

/- The program's reading of a text to the base 16: digits, numbers, exponents, texts cut. -/
set_option linter.unusedVariables false
set_option linter.unusedSimpArgs false
namespace Go.Proofs.YtbcjdlljmhfhdaaGreatDoor.Eng.K
open Go.RowKit Go.Proofs Go.Proofs.YtbcjdlljmhfhdaaGreatDoor.Eng
/-- the character that stands at a place -/
theorem dec_at {s : ByteArray} {A B : List UInt8} {b : UInt8} (h : tl s = A ++ b :: B) :
    (b.toNat < 128 → Utf8.decode s A.length = (b.toNat, 1)) ∧ (128 ≤ b.toNat → 128 ≤ (Utf8.decode s A.length).1) := by
  have hs : A.length < s.size := by rw [tl_size_eq, h]; simp
  have hb : (s[A.length]'hs) = b := by
    have h1 : (tl s)[A.length]? = some b := by rw [h]; simp
    have h2 : (tl s)[A.length]? = some (s[A.length]'hs) := by
      unfold tl
      rw [List.getElem?_eq_getElem (by simpa using hs)]
      rfl
    rw [h1] at h2
    exact (Option.some.inj h2).symm
  exact ⟨fun h => by rw [decode_ascii s A.length hs (by rw [hb]; exact h), hb], fun h => dec_big s A.length hs (by rw [hb]; exact h)⟩
/-- a hexadecimal digit's value, or none -/
def hxv (r : Nat) : Int × Bool := if 48 ≤ r ∧ r ≤ 57 then (((r - 48 : Nat) : Int), true) else if 97 ≤ r ∧ r ≤ 102 then (((r - 87 : Nat) : Int), true) else (0, false)
theorem value_ev (r : Nat) : Ev (fun k => hexa_value.f k (r : Int)) (hxv r) := by
  unfold hexa_value.f hxv
  have e1 : 48 ≤ r → r ≤ 57 → (IntKind.i32.wrap ((r : Int) - 48)) % 4294967296 = ((r - 48 : Nat) : Int) := by
    intro h1 h2; simp [IntKind.wrap, IntKind.bits, IntKind.signed]; omega
  have e2 : 97 ≤ r → r ≤ 102 → ((IntKind.i32.wrap ((r : Int) - 97)) % 4294967296 + 10) % 4294967296 = ((r - 87 : Nat) : Int) := by
    intro h1 h2; simp [IntKind.wrap, IntKind.bits, IntKind.signed]; omega
  have j1 : ∀ b : Bool, (97 ≤ r → b = decide (r ≤ 102)) → (¬ 97 ≤ r → b = false) → Ev (fun k => hexa_value.j1 k (r : Int) b) (if 97 ≤ r ∧ r ≤ 102 then (((r - 87 : Nat) : Int), true) else (0, false)) := by
    intro b h1 h2
    refine ev_step ?_; simp only [hexa_value.j1]
    by_cases c : 97 ≤ r ∧ r ≤ 102
    · rw [if_pos c]
      refine ev_pos (by rw [h1 c.1]; simpa using c.2) ?_
      rw [e2 c.1 c.2]
      exact Ev.now _
    · rw [if_neg c]
      refine ev_neg ?_ (Ev.now _)
      by_cases c2 : 97 ≤ r
      · rw [h1 c2]; simp; omega
      · rw [h2 c2]; simp
  have j0 : ∀ b : Bool, (48 ≤ r → b = decide (r ≤ 57)) → (¬ 48 ≤ r → b = false) → Ev (fun k => hexa_value.j0 k (r : Int) b) (if 48 ≤ r ∧ r ≤ 57 then (((r - 48 : Nat) : Int), true) else if 97 ≤ r ∧ r ≤ 102 then (((r - 87 : Nat) : Int), true) else (0, false)) := by
    intro b h1 h2
    refine ev_step ?_; simp only [hexa_value.j0]
    by_cases c : 48 ≤ r ∧ r ≤ 57
    · rw [if_pos c]
      refine ev_pos (by rw [h1 c.1]; simpa using c.2) ?_
      rw [e1 c.1 c.2]
      exact Ev.now _
    · rw [if_neg c]
      refine ev_neg ?_ ?_
      · by_cases c2 : 48 ≤ r
        · rw [h1 c2]; simp; omega
        · rw [h2 c2]; simp
      · by_cases c2 : 97 ≤ r
        · exact ev_pos (by omega) (j1 _ (fun _ => by rw [decide_eq_decide]; omega) (fun h => absurd c2 h))
        · exact ev_neg (by omega) (j1 _ (fun h => absurd h c2) (fun _ => rfl))
  by_cases c2 : 48 ≤ r
  · exact ev_pos (by omega) (j0 _ (fun _ => by rw [decide_eq_decide]; omega) (fun h => absurd c2 h))
  · exact ev_neg (by omega) (j0 _ (fun h => absurd h c2) (fun _ => rfl))
theorem hxv_hx {b : UInt8} (h : isH b = true) : hxv b.toNat = ((((hx b).getD 0 : Nat) : Int), true) := by
  unfold isH hx at h
  unfold hxv hx
  split
  · rename_i c; rfl
  · rename_i c
    rw [if_neg c] at h
    split
    · rfl
    · rename_i c2; rw [if_neg c2] at h; cases h
theorem hxv_not {b : UInt8} (h : isH b = false) : (hxv b.toNat).2 = false := by
  unfold isH hx at h
  unfold hxv
  split at h
  · cases h
  · rename_i c
    rw [if_neg c]
    split at h
    · cases h
    · rename_i c2; rw [if_neg c2]
theorem hxv_big {r : Nat} (h : 128 ≤ r) : (hxv r).2 = false := by
  unfold hxv; rw [if_neg (by omega), if_neg (by omega)]
theorem isH_small {b : UInt8} (h : isH b = true) : b.toNat < 128 := by
  unfold isH hx at h
  split at h
  · omega
  · split at h
    · omega
    · cases h
theorem or_hex {d v : Nat} (hd : d < 268435456) (hv : v < 16) : Go.bits .or .u32 (((d : Int) * 16) % 4294967296) (v : Int) = ((16 * d + v : Nat) : Int) := by
  have h1 := shl32 d 4 (by omega)
  have h2 := up_digit d 4 v (by omega) (by omega) (by omega)
  rw [h1] at h2
  have e : ((d : Int) * 16) % 4294967296 = ((d * 2 ^ 4 % 4294967296 : Nat) : Int) := by omega
  rw [e, h2]
  omega
/-- a chunk's digits -/
theorem num_l1 {x0 c : ByteArray} {x4 : List Int} {x5 : Int} {res : List Int × Bool} (hl : (tl c).length ≤ 8) : ∀ (B A : List UInt8), tl c = A ++ B → A.all isH = true →
    (B.all isH = true → Ev (fun k => hexa_number.l0 k x0 (x4 ++ [((hval (tl c) 0 : Nat) : Int)]) (wrap64 (x5 - 8))) res) → (B.all isH = false → res = ([], false)) → x4.length < 1000000000 →
    Ev (fun k => hexa_number.l1 k x0 x4 x5 ((hval A 0 : Nat) : Int) c (A.length : Int)) res
  | [], A, he, hA, h1, h2, h4 => by
    have e : tl c = A := by simpa using he
    refine ev_step ?_; simp only [hexa_number.l1]
    refine ev_neg (by rw [tl_size_eq, e]; simp) (ev_pos (by simp; omega) ?_)
    rw [← e]
    exact h1 rfl
  | b :: B, A, he, hA, h1, h2, h4 => by
    have hd := dec_at he
    have hn : ((A.length : Nat) : Int).toNat = A.length := by simp
    refine ev_step ?_; simp only [hexa_number.l1]
    rw [hn]
    refine ev_pos (by rw [tl_size_eq, he]; simp) ?_
    refine Ev.bind (value_ev _) ?_
    cases hb : isH b with
    | false =>
      have h3 : (hxv (Utf8.decode c A.length).1).2 = false := by
        by_cases c1 : b.toNat < 128
        · rw [hd.1 c1]; exact hxv_not hb
        · exact hxv_big (hd.2 (by omega))
      rw [h3]
      refine ev_pos rfl ?_
      rw [h2 (by simp [hb])]
      exact Ev.now _
    | true =>
      rw [hd.1 (isH_small hb), hxv_hx hb]
      refine ev_neg (by simp) ?_
      have hlt : A.length ≤ 7 := by have := hl; rw [he] at this; simp at this; omega
      have hv := hval_lt A
      have hv2 : 16 ^ A.length ≤ 16 ^ 7 := Nat.pow_le_pow_right (by omega) hlt
      have e1 := or_hex (d := hval A 0) (v := (hx b).getD 0) (by omega) hx_lt
      have e2 : hval (A ++ [b]) 0 = 16 * hval A 0 + (hx b).getD 0 := by rw [hval_app]; rfl
      simp only
      rw [e1, ← e2]
      have e3 : ((A.length : Nat) : Int) + ((1 : Nat) : Int) = (((A ++ [b]).length : Nat) : Int) := by simp
      rw [e3]
      refine num_l1 hl B (A ++ [b]) (by rw [he]; simp) (by simp [hA, hb]) (fun h => h1 (by simp [hb, h])) (fun h => h2 (by simp [h])) h4
/-- noughts at the high end go -/
theorem num_l2 (s : ByteArray) : ∀ (n : Nat) (l : List Int), l.length = n → Dg l → n < 4611686018427387904 → Ev (fun k => hexa_number.l2 k s l) (D (V l), decide (¬ (s = (⟨#[]⟩ : ByteArray))))
  | 0, l, hn, hd, hb => by
    have : l = [] := List.eq_nil_of_length_eq_zero hn
    subst this
    refine ev_step (ev_const ?_)
    simp [hexa_number.l2, D_zero]
  | n + 1, l, hn, hd, hb => by
    rcases List.eq_nil_or_concat l with rfl | ⟨a, d, rfl⟩
    · simp at hn
    rw [List.concat_eq_append] at hn hd ⊢
    have hl : (a ++ [d]).length = n + 1 := hn
    have ha : a.length = n := by simpa using hn
    refine ev_step ?_
    simp only [hexa_number.l2, hl, w64p (n := n) (by omega)]
    refine ev_pos (by omega) (ev_pos (by omega) (ev_pos (by omega) ?_))
    rw [rd_app (by omega)]
    by_cases h0 : d = 0
    · subst h0
      refine ev_pos rfl (ev_pos (by omega) (ev_pos (by omega) ?_))
      rw [V_snoc_zero]
      have : (a ++ [(0 : Int)]).take (n : Int).toNat = a := by simp [← ha]
      rw [this]
      exact num_l2 s n a ha hd.left (by omega)
    · refine ev_neg h0 ?_
      exact ev_eq (Ev.now _) (by rw [show D (V (a ++ [d])) = a ++ [d] from Nm_snoc hd.left (by have := hd.right.head; omega) (by have := hd.right.head; omega)])
theorem pow32 (n : Nat) : (4294967296 : Nat) ^ n = 16 ^ (8 * n) := by rw [Nat.pow_mul]
theorem hv_len {l : List UInt8} (h : l.length ≤ 8) : hval l 0 < 4294967296 := by
  have h1 := hval_lt l
  have h2 : 16 ^ l.length ≤ 16 ^ 8 := Nat.pow_le_pow_right (by omega) h
  omega
theorem num_l0 {s : ByteArray} (hs : (tl s).length ≤ 100000) : ∀ (e : Nat) (done : List Int), e ≤ (tl s).length → Dg done → V done = hval ((tl s).drop e) 0 → 8 * done.length = (tl s).length - e → ((tl s).drop e).all isH = true →
    Ev (fun k => hexa_number.l0 k s done (e : Int)) (if (tl s).all isH = true then (D (hval (tl s) 0), decide (¬ (s = (⟨#[]⟩ : ByteArray)))) else ([], false)) := by
  intro e
  induction e using Nat.strongRecOn with
  | _ e ih =>
    intro done he hd hv hl ha
    refine ev_step ?_; simp only [hexa_number.l0]
    by_cases c0 : e = 0
    · subst c0
      refine ev_neg (by simp) ?_
      rw [List.drop_zero] at hv ha
      rw [if_pos ha, ← hv]
      exact num_l2 s _ done rfl hd (by omega)
    refine ev_pos (by omega) ?_
    have e1 : mx 0 (wrap64 ((e : Int) - 8)) = ((e - 8 : Nat) : Int) := by
      rw [w64 (by omega) (by omega)]; unfold mx; split <;> omega
    rw [e1]
    refine ev_pos (by omega) (ev_pos (by omega) (ev_pos (by rw [tl_size_eq]; omega) ?_))
    simp only [Int.toNat_natCast]
    have hc : tl (s.extract (e - 8) e) = ((tl s).take e).drop (e - 8) := tl_ext s _ _
    have hcl : (tl (s.extract (e - 8) e)).length ≤ 8 := by rw [hc]; simp; omega
    have hsp : (tl s).drop (e - 8) = tl (s.extract (e - 8) e) ++ (tl s).drop e := by
      rw [hc]
      have h1 : (tl s).drop (e - 8) = ((tl s).take e ++ (tl s).drop e).drop (e - 8) := by rw [List.take_append_drop]
      rw [h1, List.drop_append_of_le_length (by simp; omega)]
    have hcl2 : (tl (s.extract (e - 8) e)).length = e - (e - 8) := by rw [hc]; simp; omega
    have hall : (tl s).all isH = true → (tl (s.extract (e - 8) e)).all isH = true := by
      intro h
      rw [hc]
      rw [List.all_eq_true] at h ⊢
      exact fun x hx => h x (List.mem_of_mem_take (List.mem_of_mem_drop hx))
    refine num_l1 hcl (tl (s.extract (e - 8) e)) [] rfl rfl (fun h => ?_) (fun h => ?_) (by omega)
    · have hvv := hv_len hcl
      by_cases c8 : 8 ≤ e
      · have e2 : wrap64 ((e : Int) - 8) = ((e - 8 : Nat) : Int) := by rw [w64 (by omega) (by omega)]; omega
        rw [e2]
        refine ih (e - 8) (by omega) _ (by omega) (hd.app (Dg.cons (by omega) (by omega) Dg.nil)) ?_ (by simp; omega) ?_
        · rw [V_append, hv, hsp, hval_app, hval_acc ((tl s).drop e) (hval (tl (s.extract (e - 8) e)) 0), V_cons, V_nil, pow32, hl]
          simp only [List.length_drop, Int.toNat_natCast, Nat.mul_zero, Nat.add_zero]
          rw [Nat.mul_comm, Nat.add_comm]
        · rw [hsp, List.all_append, h, ha]; rfl
      · have e2 : wrap64 ((e : Int) - 8) = (e : Int) - 8 := w64 (by omega) (by omega)
        rw [e2]
        have e3 : e - 8 = 0 := by omega
        rw [e3, List.drop_zero] at hsp
        rw [e3] at h hvv ⊢
        refine ev_step ?_; simp only [hexa_number.l0]
        refine ev_neg (by omega) ?_
        have hA : (tl s).all isH = true := by rw [hsp, List.all_append, h, ha]; rfl
        rw [if_pos hA]
        refine ev_eq (num_l2 s _ _ rfl (hd.app (Dg.cons (by omega) (by omega) Dg.nil)) (by simp; omega)) ?_
        rw [V_append, hv, V_cons, V_nil, pow32, hl]
        have h5 : hval (tl s) 0 = hval (tl (s.extract 0 e)) 0 * 16 ^ ((tl s).length - e) + hval ((tl s).drop e) 0 := by
          conv => lhs; rw [hsp]
          rw [hval_app, hval_acc ((tl s).drop e) (hval (tl (s.extract 0 e)) 0), List.length_drop]
        rw [h5]
        simp only [Int.toNat_natCast, Nat.mul_zero, Nat.add_zero]
        rw [Nat.mul_comm, Nat.add_comm]
    · rw [if_neg]
      intro h2
      rw [hall h2] at h
      cases h
theorem number_ev {s : ByteArray} (hs : (tl s).length ≤ 100000) : Ev (fun k => hexa_number.f k s) (if (tl s).all isH = true then (D (hval (tl s) 0), decide (¬ (s = (⟨#[]⟩ : ByteArray)))) else ([], false)) := by
  have h := num_l0 hs (tl s).length [] (by omega) Dg.nil (by simp [hval]) (by simp) (by simp)
  rw [tl_len] at h
  exact h
/-! ### texts cut -/
theorem prefix_eq (s p : ByteArray) : istringslite_HasPrefix.f s p = some (decide ((tl s).take p.size = tl p)) := by
  unfold istringslite_HasPrefix.f
  by_cases c : (s.size : Int) ≥ (p.size : Int)
  · rw [if_pos c, if_pos (by omega), if_pos (by omega)]
    congr 1
    rw [decide_eq_decide, Int.toNat_natCast, ← tl_inj, tl_ext, List.drop_zero]
  · rw [if_neg c]
    symm
    congr 1
    refine decide_eq_false fun h => ?_
    have := congrArg List.length h
    rw [List.length_take, tl_len, tl_len] at this
    omega
theorem sPrefix_eq (s p : ByteArray) : strings_HasPrefix.f s p = some (decide ((tl s).take p.size = tl p)) := by
  unfold strings_HasPrefix.f
  rw [prefix_eq]
  rfl
theorem cutPrefix_eq (s p : ByteArray) : strings_CutPrefix.f s p = some (if (tl s).take p.size = tl p then (s.extract p.size s.size, true) else (s, false)) := by
  unfold strings_CutPrefix.f istringslite_CutPrefix.f
  rw [prefix_eq]
  by_cases c : (tl s).take p.size = tl p
  · have hl := congrArg List.length c
    rw [List.length_take, tl_len, tl_len] at hl
    rw [if_pos c, decide_eq_true c]
    simp only [Option.bind_some, Bool.not_true, Bool.false_eq_true, if_false]
    rw [if_pos (by omega), if_pos (by omega)]
    simp
  · rw [if_neg c, decide_eq_false c]
    simp
theorem indexByte_spec (l : List UInt8) (c : UInt8) : (Lib.indexByte l c = -1 ∧ c ∉ l) ∨ ∃ A B, l = A ++ c :: B ∧ c ∉ A ∧ Lib.indexByte l c = (A.length : Int) := by
  induction l with
  | nil => exact .inl ⟨rfl, by simp⟩
  | cons b l ih =>
    unfold Lib.indexByte
    by_cases h : b = c
    · subst h
      exact .inr ⟨[], l, rfl, by simp, by simp⟩
    · have hb : (b == c) = false := by simpa using h
      rw [hb]
      rcases ih with ⟨h1, h2⟩ | ⟨A, B, h1, h2, h3⟩
      · exact .inl ⟨by simp [h1], by simp [h2, Ne.symm h]⟩
      · refine .inr ⟨b :: A, B, by rw [h1]; rfl, by simp [h2, Ne.symm h], ?_⟩
        have : (Lib.indexByte l c == -1) = false := by rw [h3]; simp
        rw [this, h3]
        simp
theorem split_ev {s : ByteArray} {c : UInt8} (hs : s.size < 1000000) : ∃ a b ok, Ev (fun k => hexa_split.f k s (c.toNat : Int)) (a, b, ok) ∧
    ((ok = true ∧ tl s = tl a ++ c :: tl b ∧ c ∉ tl a) ∨ (ok = false ∧ a = s ∧ b = ⟨#[]⟩ ∧ c ∉ tl s)) := by
  have ht : tl (strOf ([(c.toNat : Int)] : List Int)) = [c] := by
    rw [tl_strOf]; simp
  have hz : (strOf ([(c.toNat : Int)] : List Int)).size = 1 := by rw [tl_size_eq, ht]; rfl
  have hbt : bt (strOf ([(c.toNat : Int)] : List Int)) 0 = (c.toNat : Int) := by rw [bt_eq, ht]; rfl
  obtain ⟨i, hi⟩ : ∃ i, Lib.indexByte (tl s) c = i := ⟨_, rfl⟩
  have hf : istringslite_IndexByte.f s (c.toNat : Int) = some i := by
    unfold istringslite_IndexByte.f
    rw [Int.toNat_natCast]
    show some (Lib.indexByte (tl s) _) = _
    rw [show Nat.toUInt8 c.toNat = c from by simp, hi]
  have hx : Ev (fun k => istringslite_Index.f k s (strOf ([(c.toNat : Int)] : List Int))) i := by
    unfold istringslite_Index.f
    rw [hz]
    refine ev_neg (by simp) ?_
    refine ev_step ?_; simp only [istringslite_Index.j0]
    by_cases e : strOf ([(c.toNat : Int)] : List Int) = s
    · rw [decide_eq_true e]
      refine ev_pos rfl ?_
      have : i = 0 := by rw [← hi, ← e, ht]; simp [Lib.indexByte]
      rw [this]
      exact Ev.now _
    · rw [decide_eq_false e]
      refine ev_neg (by simp) (ev_pos rfl ?_)
      rw [hz, hbt, hf]
      exact ev_pos (by omega) (Ev.now _)
  unfold hexa_split.f strings_Cut.f istringslite_Cut.f
  rw [hz]
  rcases indexByte_spec (tl s) c with ⟨h1, h2⟩ | ⟨A, B, h1, h2, h3⟩
  · refine ⟨s, ⟨#[]⟩, false, ?_, .inr ⟨rfl, rfl, rfl, h2⟩⟩
    refine Ev.bind (a := (s, (⟨#[]⟩ : ByteArray), false)) (Ev.bind (a := (s, (⟨#[]⟩ : ByteArray), false)) (Ev.bind hx ?_) (Ev.now _)) (Ev.now _)
    exact ev_neg (by omega) (Ev.now _)
  · have hl : (tl s).length = A.length + (B.length + 1) := by rw [h1]; simp
    rw [tl_len] at hl
    have hi' : i = (A.length : Int) := by rw [← hi, h3]
    refine ⟨s.extract 0 A.length, s.extract (A.length + 1) s.size, true, ?_, .inl ⟨rfl, ?_, ?_⟩⟩
    · refine Ev.bind (a := (s.extract 0 A.length, s.extract (A.length + 1) s.size, true)) (Ev.bind (a := (s.extract 0 A.length, s.extract (A.length + 1) s.size, true)) (Ev.bind hx ?_) (Ev.now _)) (Ev.now _)
      have e1 : wrap64 (i + ((1 : Nat) : Int)) = ((A.length + 1 : Nat) : Int) := by rw [w64 (by omega) (by omega), hi']; omega
      rw [e1]
      refine ev_pos (by omega) (ev_pos (by omega) (ev_pos (by omega) (ev_pos (by omega) (ev_pos (by omega) ?_))))
      rw [hi', Int.toNat_natCast, Int.toNat_natCast]
      exact Ev.now _
    · rw [tl_ext, tl_ext, h1, List.drop_zero, List.take_append_of_le_length (Nat.le_refl _), List.take_length]
      have h5 : (A ++ c :: B).take s.size = A ++ c :: B := List.take_of_length_le (by simp; omega)
      rw [h5, List.drop_append]
      simp
    · rw [tl_ext, h1, List.drop_zero, List.take_append_of_le_length (Nat.le_refl _), List.take_length]
      exact h2
end Go.Proofs.YtbcjdlljmhfhdaaGreatDoor.Eng.K

/- The program's reading of a text to the base 16: exponents, the whole text, the word. -/
set_option linter.unusedVariables false
set_option linter.unusedSimpArgs false
namespace Go.Proofs.YtbcjdlljmhfhdaaGreatDoor.Eng.K
open Go.RowKit Go.Proofs Go.Proofs.YtbcjdlljmhfhdaaGreatDoor.Eng
theorem dval_app (a b : List UInt8) (n : Nat) : dval (a ++ b) n = dval b (dval a n) := by unfold dval; rw [List.foldl_append]
theorem dval_b {l : List UInt8} (h : l.all isD = true) (hl : l.length ≤ 6) : dval l 0 < 1000000 := by
  have h1 := dval_lt l h 0
  have h2 : 10 ^ l.length ≤ 10 ^ 6 := Nat.pow_le_pow_right (by omega) hl
  omega
theorem exp_l0 {c : ByteArray} (neg : Bool) (hl : (tl c).length ≤ 6) : ∀ (B A : List UInt8), tl c = A ++ B → A.all isD = true →
    Ev (fun k => hexa_exponent.l0 k neg ((dval A 0 : Nat) : Int) c (A.length : Int)) (if B.all isD = true then (if neg = true then -((dval (tl c) 0 : Nat) : Int) else ((dval (tl c) 0 : Nat) : Int), true) else (0, false))
  | [], A, he, hA => by
    have e : tl c = A := by simpa using he
    have hb := dval_b hA (by rw [← e]; exact hl)
    refine ev_step ?_; simp only [hexa_exponent.l0]
    refine ev_neg (by rw [tl_size_eq, e]; simp) ?_
    rw [e]
    cases neg with
    | true => exact ev_pos rfl (ev_eq (Ev.now _) (by rw [w64 (by omega) (by omega)]; rfl))
    | false => exact ev_neg (by simp) (ev_eq (Ev.now _) rfl)
  | b :: B, A, he, hA => by
    have hd := dec_at he
    have hn : ((A.length : Nat) : Int).toNat = A.length := by simp
    refine ev_step ?_; simp only [hexa_exponent.l0]
    rw [hn]
    refine ev_pos (by rw [tl_size_eq, he]; simp) ?_
    cases hb : isD b with
    | false =>
      rw [if_neg (by simp [hb])]
      simp only [isD, decide_eq_false_iff_not] at hb
      by_cases c1 : b.toNat < 128
      · rw [hd.1 c1]
        by_cases c2 : b.toNat < 48
        · exact ev_pos (by simp only; omega) (Ev.now _)
        · exact ev_neg (by simp only; omega) (ev_pos (by simp only; omega) (Ev.now _))
      · have := hd.2 (by omega)
        exact ev_neg (by omega) (ev_pos (by omega) (Ev.now _))
    | true =>
      have hb' := hb
      simp only [isD, decide_eq_true_eq] at hb
      rw [hd.1 (by omega)]
      refine ev_neg (by simp only; omega) (ev_neg (by simp only; omega) ?_)
      have hlt : A.length ≤ 6 := by have := hl; rw [he] at this; simp at this; omega
      have hv := dval_b hA hlt
      have e2 : dval (A ++ [b]) 0 = 10 * dval A 0 + (b.toNat - 48) := by rw [dval_app]; rfl
      have e1 : wrap64 (wrap64 (10 * ((dval A 0 : Nat) : Int)) + wrap64 (IntKind.i32.wrap ((b.toNat : Int) - 48))) = ((dval (A ++ [b]) 0 : Nat) : Int) := by
        have h1 : IntKind.i32.wrap ((b.toNat : Int) - 48) = (b.toNat : Int) - 48 := by simp [IntKind.wrap, IntKind.bits, IntKind.signed]; omega
        rw [h1, w64 (n := 10 * ((dval A 0 : Nat) : Int)) (by omega) (by omega), w64 (n := (b.toNat : Int) - 48) (by omega) (by omega), w64 (by omega) (by omega), e2]
        omega
      simp only
      rw [e1]
      have e3 : ((A.length : Nat) : Int) + ((1 : Nat) : Int) = (((A ++ [b]).length : Nat) : Int) := by simp
      rw [e3]
      refine ev_eq (exp_l0 neg hl B (A ++ [b]) (by rw [he]; simp) (by simp [hA, hb'])) ?_
      simp [hb']
theorem exp_j1 {s : ByteArray} (neg : Bool) (hs : s.size < 1000000) : Ev (fun k => hexa_exponent.j1 k s neg)
    (if tl s ≠ [] ∧ (tl s).length ≤ 6 ∧ (tl s).all isD = true then (if neg = true then -((dval (tl s) 0 : Nat) : Int) else ((dval (tl s) 0 : Nat) : Int), true) else (0, false)) := by
  refine ev_step ?_; simp only [hexa_exponent.j1]
  by_cases c0 : s = (⟨#[]⟩ : ByteArray)
  · refine ev_pos c0 ?_
    rw [if_neg (by rw [tl_nil.2 c0]; simp)]
    exact Ev.now _
  refine ev_neg c0 ?_
  by_cases c1 : (tl s).length ≤ 6
  · refine ev_neg (by rw [tl_size_eq]; omega) ?_
    refine ev_eq (exp_l0 neg c1 (tl s) [] rfl rfl) ?_
    by_cases c2 : (tl s).all isD = true
    · rw [if_pos c2, if_pos (show tl s ≠ [] ∧ (tl s).length ≤ 6 ∧ (tl s).all isD = true from ⟨fun h => c0 (tl_nil.1 h), c1, c2⟩)]
    · rw [if_neg c2, if_neg (fun h => c2 h.2.2)]
  · refine ev_pos (by rw [tl_size_eq]; omega) ?_
    rw [if_neg (fun h => c1 h.2.1)]
    exact Ev.now _
theorem expS_eq (E : List UInt8) : (if expOk E = true then (expV E, true) else ((0 : Int), false)) = if expR E ≠ [] ∧ (expR E).length ≤ 6 ∧ (expR E).all isD = true then (if expN E = true then -((dval (expR E) 0 : Nat) : Int) else ((dval (expR E) 0 : Nat) : Int), true) else (0, false) := by
  unfold expOk expV
  by_cases c : expR E ≠ [] ∧ (expR E).length ≤ 6 ∧ (expR E).all isD = true
  · rw [if_pos c, if_pos (by simp only [Bool.and_eq_true, decide_eq_true_eq]; exact ⟨⟨c.1, c.2.1⟩, c.2.2⟩)]
  · rw [if_neg c, if_neg]
    simp only [Bool.and_eq_true, decide_eq_true_eq]
    exact fun h => c ⟨h.1.1, h.1.2, h.2⟩
theorem take1 {l : List UInt8} {b : UInt8} : l.take 1 = [b] ↔ ∃ r, l = b :: r := by
  cases l with
  | nil => simp
  | cons a l => simp
theorem exp_plain {l : List UInt8} (h1 : ¬ l.take 1 = [45]) (h2 : ¬ l.take 1 = [43]) : expN l = false ∧ expR l = l := by
  cases l with
  | nil => exact ⟨rfl, rfl⟩
  | cons a l =>
    have n1 : a ≠ 45 := by rintro rfl; exact h1 rfl
    have n2 : a ≠ 43 := by rintro rfl; exact h2 rfl
    constructor
    · unfold expN; split
      · rename_i h; exact absurd (List.cons.inj h).1 n1
      · rfl
    · unfold expR; split
      · rename_i h; exact absurd (List.cons.inj h).1 n1
      · rename_i h; exact absurd (List.cons.inj h).1 n2
      · rfl
theorem tl_rest {s : ByteArray} {a : UInt8} {r : List UInt8} (h : tl s = a :: r) : tl (s.extract 1 s.size) = r := by
  rw [tl_ext, tl_size_eq, List.take_length, h]; rfl
theorem exponent_ev {s : ByteArray} (hs : s.size < 1000000) : Ev (fun k => hexa_exponent.f k s) (if expOk (tl s) = true then (expV (tl s), true) else (0, false)) := by
  rw [expS_eq]
  unfold hexa_exponent.f
  rw [sPrefix_eq, sPrefix_eq]
  show Ev _ _
  simp only [Option.bind_some]
  by_cases c1 : (tl s).take 1 = [45]
  · obtain ⟨r, hr⟩ := take1.1 c1
    have hz : 1 ≤ s.size := by rw [tl_size_eq, hr]; simp
    have hx := tl_rest hr
    have hb : (s.extract 1 s.size).size < 1000000 := by rw [tl_size_eq, hx]; rw [tl_size_eq, hr] at hs; simp at hs; omega
    have hj := exp_j1 true hb
    rw [hx] at hj
    have ht : decide ((tl s).take (⟨#[45]⟩ : ByteArray).size = tl (⟨#[45]⟩ : ByteArray)) = true := decide_eq_true c1
    refine ev_pos ht (ev_pos (by omega) (ev_pos (by omega) ?_))
    rw [ht, hr]
    exact hj
  have ht : decide ((tl s).take (⟨#[45]⟩ : ByteArray).size = tl (⟨#[45]⟩ : ByteArray)) = false := decide_eq_false c1
  refine ev_neg (by rw [ht]; simp) ?_
  rw [ht]
  by_cases c2 : (tl s).take 1 = [43]
  · obtain ⟨r, hr⟩ := take1.1 c2
    have hz : 1 ≤ s.size := by rw [tl_size_eq, hr]; simp
    have hx := tl_rest hr
    have hb : (s.extract 1 s.size).size < 1000000 := by rw [tl_size_eq, hx]; rw [tl_size_eq, hr] at hs; simp at hs; omega
    have hj := exp_j1 false hb
    rw [hx] at hj
    refine ev_pos (decide_eq_true c2) (ev_pos (by omega) (ev_pos (by omega) ?_))
    rw [hr]
    exact hj
  refine ev_neg (by rw [show decide ((tl s).take (⟨#[43]⟩ : ByteArray).size = tl (⟨#[43]⟩ : ByteArray)) = false from decide_eq_false c2]; simp) ?_
  obtain ⟨p1, p2⟩ := exp_plain c1 c2
  rw [p1, p2]
  exact exp_j1 false hs
/-! ### the whole text -/
theorem all_app {p : UInt8 → Bool} {a b : List UInt8} : (a ++ b).all p = true ↔ a.all p = true ∧ b.all p = true := by rw [List.all_append, Bool.and_eq_true]
theorem not_mem_of_all {l : List UInt8} {c : UInt8} (h : l.all isH = true) (hc : isH c = false) : c ∉ l := by
  intro hm
  rw [List.all_eq_true] at h
  rw [h c hm] at hc
  cases hc
theorem first_eq {A B A' B' : List UInt8} {c : UInt8} (h : A ++ c :: B = A' ++ c :: B') (h1 : c ∉ A) (h2 : c ∉ A') : A = A' ∧ B = B' := by
  induction A generalizing A' with
  | nil =>
    cases A' with
    | nil => exact ⟨rfl, (List.cons.inj h).2⟩
    | cons a A' => exact absurd (List.mem_cons.2 (.inl (List.cons.inj h).1)) h2
  | cons a A ih =>
    cases A' with
    | nil => exact absurd (List.mem_cons.2 (.inl (List.cons.inj h).1.symm)) h1
    | cons a' A' =>
      obtain ⟨e1, e2⟩ := List.cons.inj h
      obtain ⟨r1, r2⟩ := ih e2 (fun x => h1 (List.mem_cons.2 (.inr x))) (fun x => h2 (List.mem_cons.2 (.inr x)))
      exact ⟨by rw [e1, r1], r2⟩
theorem decide_not_nil {s : ByteArray} : decide (¬ (s = (⟨#[]⟩ : ByteArray))) = decide (tl s ≠ []) := by
  rw [decide_eq_decide]
  exact not_congr tl_nil.symm
theorem read_ev {s : ByteArray} (hs : s.size ≤ 1200) : ∃ mag n ok, Ev (fun k => hexa_read.f k s) (mag, n, ok) ∧
    ((ok = true ∧ (tl s).take 2 = [48, 120] ∧ ∃ x, readS ((tl s).drop 2) = some x ∧ mag = D x.1 ∧ n = x.2) ∨ (ok = false ∧ ((tl s).take 2 = [48, 120] → readS ((tl s).drop 2) = none))) := by
  unfold hexa_read.f
  rw [cutPrefix_eq]
  simp only [Option.bind_some]
  by_cases c0 : (tl s).take 2 = [48, 120]
  rotate_left
  · refine ⟨[], 0, false, ?_, .inr ⟨rfl, fun h => absurd h c0⟩⟩
    rw [if_neg (show ¬ (tl s).take (⟨#[48, 120]⟩ : ByteArray).size = tl (⟨#[48, 120]⟩ : ByteArray) from c0)]
    exact ev_pos rfl (Ev.now _)
  rw [if_pos (show (tl s).take (⟨#[48, 120]⟩ : ByteArray).size = tl (⟨#[48, 120]⟩ : ByteArray) from c0)]
  obtain ⟨u, hu⟩ : ∃ u, u = s.extract (⟨#[48, 120]⟩ : ByteArray).size s.size := ⟨_, rfl⟩
  have htu : tl u = (tl s).drop 2 := by
    rw [hu, tl_ext, tl_size_eq s, List.take_length]; rfl
  have hul : (tl u).length ≤ 1200 := by rw [htu, List.length_drop, tl_len]; omega
  rw [← htu, ← hu]
  simp only
  obtain ⟨a, b, ok, hsp, hcase⟩ := split_ev (s := u) (c := 112) (by rw [tl_size_eq]; omega)
  have hno : ∀ {X : Nat → Option (List Int × Int × Bool)}, Ev X ([], 0, false) → (∀ W P E pt, ¬ Rd (tl u) W P E pt) → ∃ mag n ok, Ev X (mag, n, ok) ∧
      ((ok = true ∧ (tl s).take 2 = [48, 120] ∧ ∃ x, readS (tl u) = some x ∧ mag = D x.1 ∧ n = x.2) ∨ (ok = false ∧ ((tl s).take 2 = [48, 120] → readS (tl u) = none))) :=
    fun h1 h2 => ⟨_, _, _, h1, .inr ⟨rfl, fun _ => readS_none h2⟩⟩
  have hsp' : Ev (fun k => hexa_split.f k u 112) (a, b, ok) := hsp
  rcases hcase with ⟨rfl, h1, h2⟩ | ⟨rfl, rfl, rfl, h2⟩
  rotate_left
  · refine hno (ev_neg (by simp) (Ev.bind hsp' (ev_pos rfl (Ev.now _)))) ?_
    rintro W P E pt ⟨hl, -, -, -, -, -⟩
    refine h2 ?_
    rw [hl]
    simp
  have hal : (tl a).length + (tl b).length + 1 = (tl u).length := by rw [h1]; simp; omega
  have hE := exponent_ev (s := b) (by rw [tl_size_eq]; omega)
  -- where a reading would part
  have hpart : ∀ W P E pt, Rd (tl u) W P E pt → tl a = W ++ (if pt = true then 46 :: P else []) ∧ tl b = E := by
    rintro W P E pt ⟨hl, -, hw, hp, -, -⟩
    rw [h1] at hl
    have n1 : (112 : UInt8) ∉ W ++ (if pt = true then 46 :: P else []) := by
      intro hm
      rcases List.mem_append.1 hm with hm | hm
      · exact not_mem_of_all hw hx112 hm
      · split at hm
        · rcases List.mem_cons.1 hm with hm | hm
          · cases hm
          · exact not_mem_of_all hp hx112 hm
        · cases hm
    exact first_eq hl h2 n1
  by_cases ce : expOk (tl b) = true
  rotate_left
  · rw [if_neg ce] at hE
    refine hno (ev_neg (by simp) (Ev.bind hsp' (ev_neg (by simp) (Ev.bind hE (ev_pos rfl (Ev.now _)))))) ?_
    intro W P E pt h
    have := (hpart _ _ _ _ h).2
    rw [this] at ce
    exact ce h.e
  rw [if_pos ce] at hE
  obtain ⟨a2, b2, pt, hsq, hcase2⟩ := split_ev (s := a) (c := 46) (by rw [tl_size_eq]; omega)
  have hsq' : Ev (fun k => hexa_split.f k a 46) (a2, b2, pt) := hsq
  have hA2 : tl a = tl a2 ++ (if pt = true then 46 :: tl b2 else []) ∧ (pt = false → tl b2 = []) ∧ (46 : UInt8) ∉ tl a2 := by
    rcases hcase2 with ⟨rfl, k1, k2⟩ | ⟨rfl, rfl, rfl, k2⟩
    · exact ⟨by rw [if_pos rfl]; exact k1, (fun h => by cases h), k2⟩
    · exact ⟨by simp, fun _ => rfl, k2⟩
  obtain ⟨k1, k2, k3⟩ := hA2
  have hpart2 : ∀ W P E pt', Rd (tl u) W P E pt' → W = tl a2 ∧ P = tl b2 ∧ pt' = pt ∧ E = tl b := by
    intro W P E pt' h
    obtain ⟨q1, q2⟩ := hpart _ _ _ _ h
    rw [k1] at q1
    have n46 := not_mem_of_all h.hw hx46
    have hp := h.p
    cases pt' with
    | true =>
      cases pt with
      | true =>
        obtain ⟨r1, r2⟩ := first_eq q1 k3 n46
        exact ⟨r1.symm, r2.symm, rfl, q2.symm⟩
      | false =>
        simp only [Bool.false_eq_true, if_false, if_true, List.append_nil] at q1
        rw [q1] at k3
        simp at k3
    | false =>
      simp only [Bool.false_eq_true, if_false, List.append_nil] at q1 hp
      cases pt with
      | true =>
        exfalso
        refine n46 ?_
        rw [← q1]
        simp
      | false =>
        simp only [Bool.false_eq_true, if_false, List.append_nil] at q1
        exact ⟨q1.symm, by rw [hp, k2 rfl], rfl, q2.symm⟩
  have hgo : ∀ {r : List Int × Int × Bool}, Ev (fun k => (hexa_split.f k a 46).bind fun t290 => (if t290.1 = (⟨#[]⟩ : ByteArray) then (some (([] : List Int), 0, false)) else (if t290.2.2 = true then (if t290.2.1 = (⟨#[]⟩ : ByteArray) then (some (([] : List Int), 0, false)) else (if t290.1.size + t290.2.1.size < 35184372088832 then ((hexa_number.f k (t290.1 ++ t290.2.1)).bind fun t291 => (some (t291.1, wrap64 (expV (tl b) - (wrap64 (4 * (t290.2.1.size : Int)))), t291.2))) else (none))) else (if t290.1.size + t290.2.1.size < 35184372088832 then ((hexa_number.f k (t290.1 ++ t290.2.1)).bind fun t292 => (some (t292.1, wrap64 (expV (tl b) - (wrap64 (4 * (t290.2.1.size : Int)))), t292.2))) else (none))))) r →
      Ev (fun k => if (!true) = true then (some (([] : List Int), (0 : Int), false)) else ((hexa_split.f k u 112).bind fun t288 => (if (!t288.2.2) = true then (some (([] : List Int), 0, false)) else ((hexa_exponent.f k t288.2.1).bind fun t289 => (if (!t289.2) = true then (some (([] : List Int), 0, false)) else ((hexa_split.f k t288.1 46).bind fun t290 => (if t290.1 = (⟨#[]⟩ : ByteArray) then (some (([] : List Int), 0, false)) else (if t290.2.2 = true then (if t290.2.1 = (⟨#[]⟩ : ByteArray) then (some (([] : List Int), 0, false)) else (if t290.1.size + t290.2.1.size < 35184372088832 then ((hexa_number.f k (t290.1 ++ t290.2.1)).bind fun t291 => (some (t291.1, wrap64 (t289.1 - (wrap64 (4 * (t290.2.1.size : Int)))), t291.2))) else (none))) else (if t290.1.size + t290.2.1.size < 35184372088832 then ((hexa_number.f k (t290.1 ++ t290.2.1)).bind fun t292 => (some (t292.1, wrap64 (t289.1 - (wrap64 (4 * (t290.2.1.size : Int)))), t292.2))) else (none)))))))))) r :=
    fun h => ev_neg (by simp) (Ev.bind hsp' (ev_neg (by simp) (Ev.bind hE (ev_neg (by simp) h))))
  by_cases cw : a2 = (⟨#[]⟩ : ByteArray)
  · refine hno (hgo (Ev.bind hsq' (ev_pos cw (Ev.now _)))) ?_
    intro W P E pt' h
    have := (hpart2 _ _ _ _ h).1
    exact h.w (by rw [this]; exact tl_nil.2 cw)
  by_cases cp : pt = true ∧ b2 = (⟨#[]⟩ : ByteArray)
  · refine hno (hgo (Ev.bind hsq' (ev_neg cw (ev_pos cp.1 (ev_pos cp.2 (Ev.now _)))))) ?_
    intro W P E pt' h
    obtain ⟨-, q, rfl, -⟩ := hpart2 _ _ _ _ h
    have hp := h.p
    rw [if_pos cp.1, q] at hp
    exact hp (tl_nil.2 cp.2)
  have hlen : (tl a2).length + (tl b2).length ≤ 1200 := by
    have := congrArg List.length k1
    rw [List.length_append] at this
    cases pt with
    | true => simp at this; omega
    | false => rw [k2 rfl]; simp at this ⊢; omega
  have hN := number_ev (s := a2 ++ b2) (by rw [tl_app, List.length_append]; omega)
  rw [decide_not_nil, tl_app, decide_eq_true (show tl a2 ++ tl b2 ≠ [] from fun h => cw (tl_nil.1 (List.append_eq_nil_iff.1 h).1))] at hN
  have hb := expV_b ce
  have hw : wrap64 (expV (tl b) - (wrap64 (4 * (b2.size : Int)))) = expV (tl b) - 4 * ((tl b2).length : Int) := by
    rw [tl_size_eq, w64 (n := 4 * ((tl b2).length : Int)) (by omega) (by omega), w64 (by omega) (by omega)]
  have hfin : ∀ {x : List Int × Bool}, Ev (fun k => hexa_number.f k (a2 ++ b2)) x → Ev (fun k => if (!true) = true then (some (([] : List Int), (0 : Int), false)) else ((hexa_split.f k u 112).bind fun t288 => (if (!t288.2.2) = true then (some (([] : List Int), 0, false)) else ((hexa_exponent.f k t288.2.1).bind fun t289 => (if (!t289.2) = true then (some (([] : List Int), 0, false)) else ((hexa_split.f k t288.1 46).bind fun t290 => (if t290.1 = (⟨#[]⟩ : ByteArray) then (some (([] : List Int), 0, false)) else (if t290.2.2 = true then (if t290.2.1 = (⟨#[]⟩ : ByteArray) then (some (([] : List Int), 0, false)) else (if t290.1.size + t290.2.1.size < 35184372088832 then ((hexa_number.f k (t290.1 ++ t290.2.1)).bind fun t291 => (some (t291.1, wrap64 (t289.1 - (wrap64 (4 * (t290.2.1.size : Int)))), t291.2))) else (none))) else (if t290.1.size + t290.2.1.size < 35184372088832 then ((hexa_number.f k (t290.1 ++ t290.2.1)).bind fun t292 => (some (t292.1, wrap64 (t289.1 - (wrap64 (4 * (t290.2.1.size : Int)))), t292.2))) else (none)))))))))) (x.1, expV (tl b) - 4 * ((tl b2).length : Int), x.2) := by
    intro x hx
    refine hgo (Ev.bind hsq' (ev_neg cw ?_))
    have hz : a2.size + b2.size < 35184372088832 := by rw [tl_size_eq, tl_size_eq b2]; omega
    cases pt with
    | true =>
      refine ev_pos rfl (ev_neg (fun h => cp ⟨rfl, h⟩) (ev_pos hz (Ev.bind hx ?_)))
      simp only
      rw [hw]
      exact Ev.now _
    | false =>
      refine ev_neg (by simp) (ev_pos hz (Ev.bind hx ?_))
      simp only
      rw [hw]
      exact Ev.now _
  by_cases ch : (tl a2 ++ tl b2).all isH = true
  · rw [if_pos ch] at hN
    refine ⟨_, _, _, hfin hN, .inl ⟨rfl, c0, _, readS_of (W := tl a2) (P := tl b2) (E := tl b) (pt := pt) ⟨?_, ?_, (all_app.1 ch).1, (all_app.1 ch).2, ?_, ce⟩, rfl, rfl⟩⟩
    · rw [h1, k1]
    · exact fun h => cw (tl_nil.1 h)
    · cases pt with
      | true => rw [if_pos rfl]; exact fun h => cp ⟨rfl, tl_nil.1 h⟩
      | false => rw [if_neg (by simp)]; exact k2 rfl
  · rw [if_neg ch] at hN
    refine ⟨_, _, _, hfin hN, .inr ⟨rfl, fun _ => readS_none ?_⟩⟩
    intro W P E pt' h
    obtain ⟨rfl, rfl, -, -⟩ := hpart2 _ _ _ _ h
    exact ch (all_app.2 ⟨h.hw, h.hp⟩)
end Go.Proofs.YtbcjdlljmhfhdaaGreatDoor.Eng.K

/- The document's reading of a text to the base 16. -/
set_option linter.unusedVariables false
set_option linter.unusedSimpArgs false
namespace Go.Proofs.YtbcjdlljmhfhdaaGreatDoor.Eng.K
open Go.RowKit Go.Proofs Go.Proofs.YtbcjdlljmhfhdaaGreatDoor.Eng
/-- the document's value of a digit; -1: it is none -/
def hxi (b : UInt8) : Int := if isH b = true then (((hx b).getD 0 : Nat) : Int) else -1
theorem rdigit_ev (b : UInt8) : Ev (fun k => cutplaneref09_digit.f k (b.toNat : Int)) (hxi b) := by
  have hb : b.toNat < 256 := b.toNat_lt
  unfold cutplaneref09_digit.f
  have e1 : 48 ≤ b.toNat → b.toNat ≤ 57 → wrap64 (((b.toNat : Int) - 48) % 256) = hxi b := by
    intro h1 h2
    have : hx b = some (b.toNat - 48) := by unfold hx; rw [if_pos ⟨h1, h2⟩]
    unfold hxi isH
    rw [this, w64 (by omega) (by omega)]
    simp; omega
  have e2 : 97 ≤ b.toNat → b.toNat ≤ 102 → wrap64 (wrap64 (((b.toNat : Int) - 97) % 256) + 10) = hxi b := by
    intro h1 h2
    have : hx b = some (b.toNat - 87) := by unfold hx; rw [if_neg (by omega), if_pos ⟨h1, h2⟩]
    unfold hxi isH
    rw [this, w64 (n := ((b.toNat : Int) - 97) % 256) (by omega) (by omega), w64 (by omega) (by omega)]
    simp; omega
  have e3 : ¬ (48 ≤ b.toNat ∧ b.toNat ≤ 57) → ¬ (97 ≤ b.toNat ∧ b.toNat ≤ 102) → hxi b = -1 := by
    intro h1 h2
    have : hx b = none := by unfold hx; rw [if_neg h1, if_neg h2]
    unfold hxi isH
    rw [this]; rfl
  have j2 : ∀ x : Bool, (x = decide (97 ≤ b.toNat ∧ b.toNat ≤ 102)) → ¬ (48 ≤ b.toNat ∧ b.toNat ≤ 57) → Ev (fun k => cutplaneref09_digit.j2 k (b.toNat : Int) x) (hxi b) := by
    intro x hx h0
    refine ev_step ?_; simp only [cutplaneref09_digit.j2]
    by_cases c : 97 ≤ b.toNat ∧ b.toNat ≤ 102
    · refine ev_pos (by rw [hx]; simpa using c) ?_
      rw [e2 c.1 c.2]; exact Ev.now _
    · refine ev_neg (by rw [hx]; simpa using c) ?_
      rw [e3 h0 c]; exact Ev.now _
  have j0 : ∀ x : Bool, (x = decide (48 ≤ b.toNat ∧ b.toNat ≤ 57)) → Ev (fun k => cutplaneref09_digit.j0 k (b.toNat : Int) x) (hxi b) := by
    intro x hx
    refine ev_step ?_; simp only [cutplaneref09_digit.j0]
    by_cases c : 48 ≤ b.toNat ∧ b.toNat ≤ 57
    · refine ev_pos (by rw [hx]; simpa using c) ?_
      rw [e1 c.1 c.2]; exact Ev.now _
    · refine ev_neg (by rw [hx]; simpa using c) ?_
      by_cases c2 : 97 ≤ b.toNat
      · refine ev_pos (by omega) (j2 _ ?_ c)
        rw [decide_eq_decide]; omega
      · refine ev_neg (by omega) (j2 _ ?_ c)
        symm; exact decide_eq_false (by omega)
  by_cases c2 : 48 ≤ b.toNat
  · refine ev_pos (by omega) (j0 _ ?_)
    rw [decide_eq_decide]; omega
  · refine ev_neg (by omega) (j0 _ ?_)
    symm; exact decide_eq_false (by omega)
theorem bt_at {s : ByteArray} {A B : List UInt8} {b : UInt8} (h : tl s = A ++ b :: B) : bt s (A.length : Int) = (b.toNat : Int) := by
  rw [bt_eq, h, Int.toNat_natCast]
  simp [List.getD]
theorem size_at {s : ByteArray} {A B : List UInt8} (h : tl s = A ++ B) : s.size = A.length + B.length := by
  rw [tl_size_eq, h, List.length_append]
/-- digits from a place on -/
theorem rdigits_l0 {s : ByteArray} (hs : s.size ≤ 1200) (at0 : Nat) : ∀ (B A : List UInt8) (v n : Nat), tl s = A ++ B → A.length = at0 + n → v < 16 ^ A.length →
    Ev (fun k => cutplaneref09_digits.l0 k s (at0 : Int) (D v) (n : Int)) (((n + (B.takeWhile isH).length : Nat) : Int), D (hval (B.takeWhile isH) v))
  | [], A, v, n, he, hA, hv => by
    have hz := size_at he
    simp only [List.length_nil] at hz
    refine ev_step ?_; simp only [cutplaneref09_digits.l0]
    rw [w64 (n := (at0 : Int) + (n : Int)) (by omega) (by omega)]
    exact ev_neg (by omega) (ev_eq (Ev.now _) (by simp [hval]))
  | b :: B, A, v, n, he, hA, hv => by
    have hz := size_at he
    simp only [List.length_cons] at hz
    have hb := bt_at he
    refine ev_step ?_; simp only [cutplaneref09_digits.l0]
    have e1 : wrap64 ((at0 : Int) + (n : Int)) = (A.length : Int) := by rw [w64 (by omega) (by omega)]; omega
    rw [e1, hb]
    refine ev_pos (by omega) (ev_pos (by omega) (ev_pos (by omega) (Ev.bind (rdigit_ev b) ?_)))
    cases h : isH b with
    | false =>
      refine ev_neg (by unfold hxi; rw [h]; simp) ?_
      rw [List.takeWhile_cons, h]
      exact ev_eq (Ev.now _) (by simp [hval])
    | true =>
      have hx1 : hxi b = (((hx b).getD 0 : Nat) : Int) := by unfold hxi; rw [if_pos h]
      have hx2 := hx_lt (b := b)
      have hlen : (D v).length ≤ 1200 := by
        have h1 : v < 4294967296 ^ A.length := Nat.lt_of_lt_of_le hv (Nat.pow_le_pow_left (by omega) _)
        exact Nat.le_trans (D_lt h1) (by omega)
      rw [hx1]
      refine ev_pos (by omega) (Ev.bind (ref_Up_ev (Dg_D v) (by omega) 4 (by omega)) (ev_pos (by omega) (ev_pos (by omega) (Ev.bind (rdigit_ev b) ?_))))
      rw [hx1, V_D]
      refine Ev.bind (ref_Of_ev (n := IntKind.u64.wrap (((hx b).getD 0 : Nat) : Int)) (by rw [u64 (by omega) (by omega)]; omega) (by rw [u64 (by omega) (by omega)]; omega)) ?_
      rw [u64 (n := (((hx b).getD 0 : Nat) : Int)) (by omega) (by omega), Int.toNat_natCast]
      have hv2 : v * 2 ^ 4 < 16 ^ (A.length + 1) := by rw [Nat.pow_succ]; omega
      have hv3 : v * 2 ^ 4 < 4294967296 ^ (A.length + 1) := Nat.lt_of_lt_of_le hv2 (Nat.pow_le_pow_left (by omega) _)
      refine Ev.bind (ref_Add_ev (Dg_D _) (Dg_D _) (Nat.lt_of_le_of_lt (D_lt hv3) (by omega)) (Nat.lt_of_le_of_lt (D_lt (k := 1) (by omega)) (by omega))) ?_
      rw [V_D, V_D]
      have e2 : wrap64 ((n : Int) + 1) = ((n + 1 : Nat) : Int) := by rw [w64 (by omega) (by omega)]; omega
      rw [e2]
      have e3 : v * 2 ^ 4 + (hx b).getD 0 = hval [b] v := by show _ = 16 * v + (hx b).getD 0; omega
      rw [e3]
      refine ev_eq (rdigits_l0 hs at0 B (A ++ [b]) (hval [b] v) (n + 1) (by rw [he]; simp) (by simp; omega) ?_) ?_
      · rw [hval_acc, List.length_append, List.length_singleton, Nat.pow_add, Nat.pow_one]
        have := hval_lt [b]
        simp only [List.length_singleton, Nat.pow_one] at this ⊢
        have : v * 16 + 16 ≤ 16 ^ A.length * 16 := by omega
        omega
      · rw [List.takeWhile_cons, h]
        simp only [if_true, List.length_cons]
        have : hval (b :: B.takeWhile isH) v = hval (B.takeWhile isH) (hval [b] v) := by rw [← hval_app]; rfl
        rw [this, show n + 1 + (B.takeWhile isH).length = n + ((B.takeWhile isH).length + 1) by omega]
theorem rdigits_ev {s : ByteArray} (hs : s.size ≤ 1200) {A B : List UInt8} {v : Nat} (he : tl s = A ++ B) (hv : v < 16 ^ A.length) :
    Ev (fun k => cutplaneref09_digits.f k s (A.length : Int) (D v)) (((B.takeWhile isH).length : Int), D (hval (B.takeWhile isH) v)) := by
  have h := rdigits_l0 hs A.length B A v 0 he rfl hv
  rw [Nat.zero_add] at h
  exact h
abbrev RT := Bool × ByteArray × List Int × Int × Bool
def rF : RT := (false, ⟨#[]⟩, [], 0, false)
theorem rexp_l0 {s : ByteArray} (hs : s.size ≤ 1200) (a : Bool) (b : ByteArray) (c : List Int) (d : Int) (g : Bool) (nm : ByteArray) (mg : List Int) {ex : Int} (hx : -10000 ≤ ex ∧ ex ≤ 10000) (low : Bool) : ∀ (B A C : List UInt8), tl s = A ++ B → C.all isD = true → C.length + B.length ≤ 6 →
    Ev (fun k => cutplaneref09_Read.l0 k s a b c d g nm mg ex low ((dval C 0 : Nat) : Int) (A.length : Int)) (if B.all isD = true then (g, nm, mg, ex + (if low = true then -((dval (C ++ B) 0 : Nat) : Int) else ((dval (C ++ B) 0 : Nat) : Int)), true) else rF)
  | [], A, C, he, hC, hl => by
    have hz := size_at he
    simp only [List.length_nil] at hz
    have hv := dval_b hC (by omega)
    refine ev_step ?_; simp only [cutplaneref09_Read.l0]
    refine ev_neg (by omega) ?_
    rw [List.append_nil]
    cases low with
    | true =>
      refine ev_pos rfl ?_
      refine ev_step ?_; simp only [cutplaneref09_Read.j20]
      exact ev_eq (Ev.now _) (by rw [w64 (n := -((dval C 0 : Nat) : Int)) (by omega) (by omega), w64 (by omega) (by omega)]; rfl)
    | false =>
      refine ev_neg (by simp) ?_
      refine ev_step ?_; simp only [cutplaneref09_Read.j20]
      exact ev_eq (Ev.now _) (by rw [w64 (by omega) (by omega)]; rfl)
  | x :: B, A, C, he, hC, hl => by
    have hz := size_at he
    simp only [List.length_cons] at hz hl
    have hb := bt_at he
    refine ev_step ?_; simp only [cutplaneref09_Read.l0]
    rw [hb]
    refine ev_pos (by omega) (ev_pos (by omega) (ev_pos (by omega) ?_))
    cases h : isD x with
    | false =>
      rw [if_neg (by simp [h])]
      simp only [isD, decide_eq_false_iff_not] at h
      by_cases c2 : x.toNat < 48
      · exact ev_pos (by omega) (Ev.now _)
      · exact ev_neg (by omega) (ev_pos (by omega) (ev_pos (by omega) (ev_pos (by omega) (Ev.now _))))
    | true =>
      have h' := h
      simp only [isD, decide_eq_true_eq] at h
      have hv := dval_b hC (by omega)
      refine ev_neg (by omega) (ev_pos (by omega) (ev_pos (by omega) (ev_neg (by omega) (ev_pos (by omega) (ev_pos (by omega) ?_)))))
      have e2 : dval (C ++ [x]) 0 = 10 * dval C 0 + (x.toNat - 48) := by rw [dval_app]; rfl
      have e1 : wrap64 (wrap64 (10 * ((dval C 0 : Nat) : Int)) + wrap64 (((x.toNat : Int) - 48) % 256)) = ((dval (C ++ [x]) 0 : Nat) : Int) := by
        rw [w64 (n := 10 * ((dval C 0 : Nat) : Int)) (by omega) (by omega), w64 (n := ((x.toNat : Int) - 48) % 256) (by omega) (by omega), w64 (by omega) (by omega), e2]
        omega
      have e3 : wrap64 ((A.length : Int) + 1) = (((A ++ [x]).length : Nat) : Int) := by rw [w64 (by omega) (by omega)]; simp
      rw [e1, e3]
      refine ev_eq (rexp_l0 hs a b c d g nm mg hx low B (A ++ [x]) (C ++ [x]) (by rw [he]; simp) (by simp [hC, h']) (by simp; omega)) ?_
      simp [h']
theorem rj13 {s : ByteArray} (hs : s.size ≤ 1200) (a : Bool) (b : ByteArray) (c : List Int) (d : Int) (g : Bool) (nm : ByteArray) (mg : List Int) {ex : Int} (hx : -10000 ≤ ex ∧ ex ≤ 10000) (low : Bool) {A B : List UInt8} (he : tl s = A ++ B) :
    Ev (fun k => cutplaneref09_Read.j13 k s a b c d g nm mg ex (A.length : Int) low) (if B ≠ [] ∧ B.length ≤ 6 ∧ B.all isD = true then (g, nm, mg, ex + (if low = true then -((dval B 0 : Nat) : Int) else ((dval B 0 : Nat) : Int)), true) else rF) := by
  have hz := size_at he
  refine ev_step ?_; simp only [cutplaneref09_Read.j13]
  by_cases c0 : B = []
  · rw [if_neg (fun h => h.1 c0)]
    subst c0
    exact ev_pos (by simp at hz; omega) (Ev.now _)
  have hl := List.length_pos_iff.2 c0
  refine ev_neg (by omega) ?_
  rw [w64 (n := (s.size : Int) - (A.length : Int)) (by omega) (by omega)]
  by_cases c1 : B.length ≤ 6
  · refine ev_neg (by omega) (ev_eq (rexp_l0 hs a b c d g nm mg hx low B A [] he rfl (by simpa using c1)) ?_)
    by_cases c2 : B.all isD = true
    · rw [if_pos c2, if_pos (show B ≠ [] ∧ B.length ≤ 6 ∧ B.all isD = true from ⟨c0, c1, c2⟩)]; rfl
    · rw [if_neg c2, if_neg (fun h => c2 h.2.2)]
  · rw [if_neg (fun h => c1 h.2.1)]
    exact ev_pos (by omega) (Ev.now _)
def rE (g : Bool) (nm : ByteArray) (mg : List Int) (ex : Int) (E : List UInt8) : RT := if expOk E = true then (g, nm, mg, ex + expV E, true) else rF
theorem rE_eq (g : Bool) (nm : ByteArray) (mg : List Int) (ex : Int) (E : List UInt8) : rE g nm mg ex E = if expR E ≠ [] ∧ (expR E).length ≤ 6 ∧ (expR E).all isD = true then (g, nm, mg, ex + (if expN E = true then -((dval (expR E) 0 : Nat) : Int) else ((dval (expR E) 0 : Nat) : Int)), true) else rF := by
  unfold rE expOk expV
  by_cases c : expR E ≠ [] ∧ (expR E).length ≤ 6 ∧ (expR E).all isD = true
  · rw [if_pos c, if_pos (by simp only [Bool.and_eq_true, decide_eq_true_eq]; exact ⟨⟨c.1, c.2.1⟩, c.2.2⟩)]
  · rw [if_neg c, if_neg]
    simp only [Bool.and_eq_true, decide_eq_true_eq]
    exact fun h => c ⟨h.1.1, h.1.2, h.2⟩
/-- behind the digits: p and the exponent -/
theorem rj9 {s : ByteArray} (hs : s.size ≤ 1200) (a : Bool) (b : ByteArray) (c : List Int) (d : Int) (g : Bool) (nm : ByteArray) (m0 mg : List Int) {ex : Int} (hx : -10000 ≤ ex ∧ ex ≤ 10000) {A R : List UInt8} (he : tl s = A ++ R) :
    Ev (fun k => cutplaneref09_Read.j9 k s a b c d g nm m0 ex (A.length : Int) mg) (onPQ (fun E => rE g nm mg ex E) (fun _ => rF) rF R) := by
  have hz := size_at he
  refine ev_step ?_; simp only [cutplaneref09_Read.j9]
  cases R with
  | nil => exact ev_pos (by simp at hz; omega) (Ev.now _)
  | cons x E =>
    simp only [List.length_cons] at hz
    refine ev_neg (by omega) (ev_pos (by omega) (ev_pos (by omega) ?_))
    rw [bt_at he]
    by_cases cx : x = 112
    rotate_left
    · refine ev_pos (fun h => cx ?_) ?_
      · have : x.toNat = (112 : UInt8).toNat := by show _ = 112; omega
        exact UInt8.toNat_inj.1 this
      · by_cases c46 : x = 46
        · subst c46; exact Ev.now _
        · rw [onPQ_no _ _ _ cx c46]; exact Ev.now _
    subst cx
    refine ev_neg (by simp) ?_
    show Ev _ (rE g nm mg ex E)
    rw [rE_eq]
    have he2 : tl s = (A ++ [112]) ++ E := by rw [he]; simp
    have e1 : wrap64 ((A.length : Int) + 1) = (((A ++ [(112 : UInt8)]).length : Nat) : Int) := by rw [w64 (by omega) (by omega)]; simp
    rw [e1]
    have hl2 : (A ++ [(112 : UInt8)]).length = A.length + 1 := by simp
    cases E with
    | nil =>
      refine ev_neg (by simp at hz ⊢; omega) ?_
      refine ev_step ?_; simp only [cutplaneref09_Read.j12]
      refine ev_neg (by simp) ?_
      exact ev_eq (rj13 hs a b c d g nm mg hx false he2) (by rw [if_neg (by simp), if_neg (by simp [expR])])
    | cons y E =>
      simp only [List.length_cons] at hz
      refine ev_pos (by omega) (ev_pos (by omega) (ev_pos (by omega) ?_))
      rw [bt_at he2]
      have he3 : tl s = (A ++ [112] ++ [y]) ++ E := by rw [he]; simp
      have e2 : wrap64 (((A ++ [(112 : UInt8)]).length : Int) + 1) = (((A ++ [(112 : UInt8)] ++ [y]).length : Nat) : Int) := by rw [w64 (by omega) (by omega), @List.length_append _ (A ++ [112]) [y]]; rfl
      by_cases c45 : y = 45
      · subst c45
        refine ev_pos rfl ?_
        refine ev_step ?_; simp only [cutplaneref09_Read.j12]
        refine ev_pos trivial (ev_pos (by omega) (ev_pos (by omega) ?_))
        rw [bt_at he2, e2]
        exact ev_eq (rj13 hs a b c d g nm mg hx true he3) rfl
      have n45 : ¬ (y.toNat : Int) = 45 := fun h => c45 (UInt8.toNat_inj.1 (by show _ = 45; omega))
      refine ev_neg n45 (ev_pos (by omega) (ev_pos (by omega) ?_))
      by_cases c43 : y = 43
      · subst c43
        refine ev_step ?_; simp only [cutplaneref09_Read.j12]
        refine ev_pos rfl (ev_pos (by omega) (ev_pos (by omega) ?_))
        rw [bt_at he2, e2]
        exact ev_eq (rj13 hs a b c d g nm mg hx false he3) rfl
      have n43 : ¬ (y.toNat : Int) = 43 := fun h => c43 (UInt8.toNat_inj.1 (by show _ = 43; omega))
      refine ev_step ?_; simp only [cutplaneref09_Read.j12]
      refine ev_neg (by simpa using n43) ?_
      obtain ⟨p1, p2⟩ := exp_plain (l := y :: E) (by simpa using c45) (by simpa using c43)
      rw [p1, p2]
      exact rj13 hs a b c d g nm mg hx false he2
/-- a point and digits behind it -/
theorem rj7 {s : ByteArray} (hs : s.size ≤ 1200) (a : Bool) (b : ByteArray) (c : List Int) (d : Int) (g : Bool) (nm : ByteArray) (m0 : List Int) {A R : List UInt8} {v : Nat} (he : tl s = A ++ R) (hv : v < 16 ^ A.length) :
    Ev (fun k => cutplaneref09_Read.j7 k s a b c d g nm m0 0 (A.length : Int) (D v) (decide (R.head? = some 46)))
      (onPQ (fun E => rE g nm (D v) 0 E) (fun r => if r.takeWhile isH = [] then rF else onPQ (fun E => rE g nm (D (hval (r.takeWhile isH) v)) (-4 * ((r.takeWhile isH).length : Int)) E) (fun _ => rF) rF (r.dropWhile isH)) rF R) := by
  have hz := size_at he
  refine ev_step ?_; simp only [cutplaneref09_Read.j7]
  by_cases c0 : R.head? = some 46
  · rw [decide_eq_true c0]
    obtain ⟨r, rfl⟩ : ∃ r, R = 46 :: r := by
      cases R with
      | nil => cases c0
      | cons x r => exact ⟨r, by rw [Option.some.inj c0]⟩
    simp only [List.length_cons] at hz
    refine ev_pos rfl ?_
    show Ev _ (if r.takeWhile isH = [] then rF else onPQ (fun E => rE g nm (D (hval (r.takeWhile isH) v)) (-4 * ((r.takeWhile isH).length : Int)) E) (fun _ => rF) rF (r.dropWhile isH))
    have he2 : tl s = (A ++ [46]) ++ r := by rw [he]; simp
    have e1 : wrap64 ((A.length : Int) + 1) = (((A ++ [(46 : UInt8)]).length : Nat) : Int) := by rw [w64 (by omega) (by omega)]; simp
    rw [e1]
    have hv2 : v < 16 ^ (A ++ [(46 : UInt8)]).length := by
      rw [List.length_append, List.length_singleton, Nat.pow_succ]; omega
    refine Ev.bind (rdigits_ev hs he2 hv2) ?_
    simp only
    by_cases c1 : r.takeWhile isH = []
    · rw [if_pos c1]
      exact ev_pos (by rw [c1]; rfl) (Ev.now _)
    rw [if_neg c1]
    have hl := List.length_pos_iff.2 c1
    have hr := tw_dw isH r
    have hrl := congrArg List.length hr
    rw [List.length_append] at hrl
    refine ev_neg (by omega) ?_
    have he3 : tl s = (A ++ [46] ++ r.takeWhile isH) ++ r.dropWhile isH := by rw [List.append_assoc, hr, he2]
    have hl2 : (A ++ [(46 : UInt8)]).length = A.length + 1 := by simp
    have e2 : wrap64 (((A ++ [(46 : UInt8)]).length : Int) + ((r.takeWhile isH).length : Int)) = (((A ++ [46] ++ r.takeWhile isH).length : Nat) : Int) := by rw [w64 (by omega) (by omega), @List.length_append _ (A ++ [46]) _]; omega
    have e3 : wrap64 ((-4) * ((r.takeWhile isH).length : Int)) = -4 * ((r.takeWhile isH).length : Int) := w64 (by omega) (by omega)
    rw [e2, e3]
    exact rj9 hs a b c d g nm m0 (D (hval (r.takeWhile isH) v)) (by omega) he3
  · rw [decide_eq_false c0]
    refine ev_neg (by simp) ?_
    refine ev_eq (rj9 hs a b c d g nm m0 (D v) (by omega) he) ?_
    cases R with
    | nil => rfl
    | cons x r =>
      by_cases c1 : x = 112
      · subst c1; rfl
      · have c2 : x ≠ 46 := fun h => c0 (by rw [h]; rfl)
        rw [onPQ_no _ _ _ c1 c2, onPQ_no _ _ _ c1 c2]
/-- what a text says -/
def rO (g : Bool) : Option (Nat × Int) → RT
  | some x => (g, ⟨#[]⟩, D x.1, x.2, true)
  | none => rF
def rS (g : Bool) (l : List UInt8) : RT :=
  if l = [105, 110, 102] then (g, ⟨#[105, 110, 102]⟩, [], 0, true)
  else if l.take 2 = [48, 120] then rO g (readS (l.drop 2)) else rF
theorem rO_if (g : Bool) (E : List UInt8) (n : Nat) (x y : Int) (h : x = y + expV E) : rO g (if expOk E = true then some (n, x) else none) = rE g ⟨#[]⟩ (D n) y E := by
  unfold rE
  by_cases c : expOk E = true
  · rw [if_pos c, if_pos c, h]; rfl
  · rw [if_neg c, if_neg c]; rfl
theorem rS_read (g : Bool) (l : List UInt8) : rO g (readS l) =
    if l.takeWhile isH = [] then rF else onPQ (fun E => rE g ⟨#[]⟩ (D (hval (l.takeWhile isH) 0)) 0 E) (fun r => if r.takeWhile isH = [] then rF else onPQ (fun E => rE g ⟨#[]⟩ (D (hval (r.takeWhile isH) (hval (l.takeWhile isH) 0))) (-4 * ((r.takeWhile isH).length : Int)) E) (fun _ => rF) rF (r.dropWhile isH)) rF (l.dropWhile isH) := by
  unfold readS
  by_cases c : l.takeWhile isH = []
  · rw [if_pos c, if_pos c]; rfl
  rw [if_neg c, if_neg c, onPQ_map (rO g)]
  congr 1
  · funext E
    exact rO_if g E _ _ _ (by omega)
  · funext r
    by_cases c2 : r.takeWhile isH = []
    · rw [if_pos c2, if_pos c2]; rfl
    rw [if_neg c2, if_neg c2, onPQ_map (rO g)]
    congr 1
    funext E
    rw [hval_app]
    exact rO_if g E _ _ _ (by omega)
theorem rj2 {s : ByteArray} (hs : s.size ≤ 1200) (a : Bool) (b : ByteArray) (c : List Int) (d : Int) (g : Bool) {A R : List UInt8} (he : tl s = A ++ R) :
    Ev (fun k => cutplaneref09_Read.j2 k s a b c d g ⟨#[]⟩ [] 0 (A.length : Int)) (rS g R) := by
  have hz := size_at he
  have hx : ∀ j, tl (s.extract A.length j) = ((tl s).take j).drop A.length := fun j => tl_ext s _ _
  refine ev_step ?_; simp only [cutplaneref09_Read.j2]
  refine ev_pos (by omega) (ev_pos (by omega) ?_)
  rw [Int.toNat_natCast]
  unfold rS
  have h1 : tl (s.extract A.length s.size) = R := by
    rw [hx, tl_size_eq, List.take_length, he]; simp
  by_cases c1 : R = [105, 110, 102]
  · rw [if_pos c1]
    refine ev_pos ?_ (Ev.now _)
    rw [← tl_inj, h1, c1]; rfl
  rw [if_neg c1]
  refine ev_neg (fun h => c1 ?_) ?_
  · rw [← h1, h]; rfl
  have e1 : wrap64 ((A.length : Int) + 2) = ((A.length + 2 : Nat) : Int) := by rw [w64 (by omega) (by omega)]; omega
  rw [e1]
  by_cases c2 : s.size < A.length + 2
  · refine ev_pos (by omega) ?_
    rw [if_neg]
    · exact Ev.now _
    · intro h
      have := congrArg List.length h
      rw [List.length_take] at this
      simp at this
      omega
  refine ev_neg (by omega) (ev_pos (by omega) (ev_pos (by omega) (ev_pos (by omega) ?_)))
  rw [Int.toNat_natCast]
  have h2 : tl (s.extract A.length (A.length + 2)) = R.take 2 := by
    rw [hx, he, List.take_append, List.take_of_length_le (by omega), List.drop_append]
    simp
  by_cases c3 : R.take 2 = [48, 120]
  rotate_left
  · rw [if_neg c3]
    refine ev_pos (fun h => c3 ?_) (Ev.now _)
    rw [← h2, h]; rfl
  rw [if_pos c3]
  refine ev_neg (fun h => h ?_) ?_
  · rw [← tl_inj, h2, c3]; rfl
  rw [rS_read]
  have hR : R = R.take 2 ++ R.drop 2 := (List.take_append_drop 2 R).symm
  have he2 : tl s = (A ++ R.take 2) ++ R.drop 2 := by rw [List.append_assoc, ← hR, he]
  have hl2 : (A ++ R.take 2).length = A.length + 2 := by rw [c3]; simp
  have hd := rdigits_ev hs he2 (v := 0) (Nat.pow_pos (by omega))
  rw [D_zero, hl2] at hd
  refine Ev.bind hd ?_
  generalize R.drop 2 = Q at *
  simp only
  have hq := tw_dw isH Q
  have hql := congrArg List.length hq
  rw [List.length_append] at hql
  have hz2 := size_at he2
  by_cases c4 : Q.takeWhile isH = []
  · rw [if_pos c4]
    exact ev_pos (by rw [c4]; rfl) (Ev.now _)
  rw [if_neg c4]
  have hp := List.length_pos_iff.2 c4
  refine ev_neg (by omega) ?_
  have he3 : tl s = (A ++ R.take 2 ++ Q.takeWhile isH) ++ Q.dropWhile isH := by rw [List.append_assoc, hq, he2]
  have hl3 : (A ++ R.take 2 ++ Q.takeWhile isH).length = A.length + 2 + (Q.takeWhile isH).length := by rw [List.length_append, hl2]
  have e2 : wrap64 (((A.length + 2 : Nat) : Int) + ((Q.takeWhile isH).length : Int)) = (((A ++ R.take 2 ++ Q.takeWhile isH).length : Nat) : Int) := by rw [w64 (by omega) (by omega), hl3]; omega
  rw [e2]
  have hv : hval (Q.takeWhile isH) 0 < 16 ^ (A ++ R.take 2 ++ Q.takeWhile isH).length := by
    refine Nat.lt_of_lt_of_le (hval_lt _) (Nat.pow_le_pow_right (by omega) (by omega))
  have h7 := rj7 hs a b c d g ⟨#[]⟩ [] he3 hv
  have hz3 := size_at he3
  cases hdw : Q.dropWhile isH with
  | nil =>
    rw [hdw] at h7 hz3
    simp only [List.length_nil] at hz3
    refine ev_neg (by omega) ?_
    rw [decide_eq_false (by simp)] at h7
    exact h7
  | cons x r =>
    rw [hdw] at h7 hz3 he3
    simp only [List.length_cons] at hz3
    refine ev_pos (by omega) (ev_pos (by omega) (ev_pos (by omega) ?_))
    rw [bt_at he3]
    have hdx : decide ((x.toNat : Int) = 46) = decide ((x :: r).head? = some 46) := by
      rw [decide_eq_decide]
      constructor
      · intro h
        have hx46 : x = 46 := UInt8.toNat_inj.1 (by show _ = 46; omega)
        rw [hx46]; rfl
      · intro h
        rw [Option.some.inj h]; rfl
    rw [hdx]
    exact h7
def rReadS (l : List UInt8) : RT := if l = [110, 97, 110] then (false, ⟨#[110, 97, 110]⟩, [], 0, true) else rS (negT l) (bodyT l)
theorem rRead_ev {s : ByteArray} (hs : s.size ≤ 1200) : Ev (fun k => cutplaneref09_Read.f k s) (rReadS (tl s)) := by
  unfold cutplaneref09_Read.f rReadS
  by_cases c1 : s = (⟨#[110, 97, 110]⟩ : ByteArray)
  · rw [if_pos (by rw [c1]; rfl)]
    exact ev_pos c1 (Ev.now _)
  rw [if_neg (fun h => c1 (tl_inj.1 (by rw [h]; rfl)))]
  refine ev_neg c1 ?_
  cases hl : tl s with
  | nil =>
    have hz : s.size = 0 := by rw [tl_size_eq, hl]; rfl
    refine ev_neg (by omega) ?_
    exact rj2 hs false ⟨#[]⟩ [] 0 false (A := []) (R := []) (by rw [hl]; rfl)
  | cons x r =>
    have hz : s.size = r.length + 1 := by rw [tl_size_eq, hl]; rfl
    refine ev_pos (by omega) (ev_pos (by omega) ?_)
    have hb : bt s 0 = (x.toNat : Int) := bt_at (A := []) (B := r) (by rw [hl]; rfl)
    rw [hb]
    by_cases c2 : x = 45
    · subst c2
      refine ev_pos rfl ?_
      exact rj2 hs false ⟨#[]⟩ [] 0 true (A := [45]) (R := r) (by rw [hl]; rfl)
    · refine ev_neg (fun h => c2 (UInt8.toNat_inj.1 (by show _ = 45; omega))) ?_
      have n1 : negT (x :: r) = false := by
        unfold negT; split
        · rename_i h; exact absurd (List.cons.inj h).1 c2
        · rfl
      have n2 : bodyT (x :: r) = x :: r := by
        unfold bodyT; split
        · rename_i h; exact absurd (List.cons.inj h).1 c2
        · rfl
      rw [n1, n2]
      exact rj2 hs false ⟨#[]⟩ [] 0 false (A := []) (R := x :: r) (by rw [hl]; rfl)
end Go.Proofs.YtbcjdlljmhfhdaaGreatDoor.Eng.K

/- The word that a text to the base 16 says: the program and the document. -/
set_option linter.unusedVariables false
set_option linter.unusedSimpArgs false
namespace Go.Proofs.YtbcjdlljmhfhdaaGreatDoor.Eng.K
open Go.RowKit Go.Proofs Go.Proofs.YtbcjdlljmhfhdaaGreatDoor.Eng
theorem bl_hex {l : List UInt8} (h : l.length ≤ 1200) : bl (hval l 0) ≤ 4800 := by
  obtain ⟨B, hB⟩ : ∃ B, B = 4800 := ⟨_, rfl⟩
  rw [← hB]
  refine bl_le_of_lt ?_
  have h1 := hval_lt l
  have h2 : (16 : Nat) ^ l.length = 2 ^ (4 * l.length) := by rw [Nat.pow_mul]
  have h3 : 2 ^ (4 * l.length) ≤ 2 ^ B := Nat.pow_le_pow_right (by omega) (by omega)
  rw [h2] at h1
  exact Nat.lt_of_lt_of_le h1 h3
theorem readS_b {l : List UInt8} {x : Nat × Int} (hl : l.length ≤ 1200) (h : readS l = some x) : bl x.1 ≤ 4800 ∧ -1010000 ≤ x.2 ∧ x.2 ≤ 1010000 := by
  obtain ⟨W, P, E, pt, hr, rfl⟩ := readS_some h
  have hb := expV_b hr.e
  have hlen := congrArg List.length hr.l
  rw [List.length_append, List.length_append] at hlen
  have hP : P.length ≤ (if pt = true then 46 :: P else []).length := by
    have hp := hr.p
    cases pt with
    | true => simp
    | false => simp at hp; simp [hp]
  refine ⟨bl_hex (by rw [List.length_append]; omega), ?_, ?_⟩ <;> simp only <;> omega
theorem D_bl {n : Nat} (h : bl n ≤ 4800) : (D n).length ≤ 150 := by
  obtain ⟨B, hB⟩ : ∃ B, B = 150 := ⟨_, rfl⟩
  rw [← hB]
  refine D_lt (Nat.lt_of_lt_of_le (lt_bl n) ?_)
  have e : (4294967296 : Nat) ^ B = 2 ^ (32 * B) := by rw [Nat.pow_mul]
  rw [e]
  exact Nat.pow_le_pow_right (by omega) (by omega)
theorem cutMinus (s : ByteArray) : ∃ s', strings_CutPrefix.f s (⟨#[45]⟩ : ByteArray) = some (s', negT (tl s)) ∧ tl s' = bodyT (tl s) := by
  rw [cutPrefix_eq]
  cases hl : tl s with
  | nil => exact ⟨s, by simp [negT, tl], by rw [hl]; rfl⟩
  | cons a r =>
    by_cases c : a = 45
    · subst c
      refine ⟨s.extract 1 s.size, ?_, tl_rest hl⟩
      rw [if_pos (show (45 :: r).take (⟨#[45]⟩ : ByteArray).size = tl (⟨#[45]⟩ : ByteArray) from rfl)]
      rfl
    · refine ⟨s, ?_, ?_⟩
      · rw [if_neg (show ¬ (a :: r).take (⟨#[45]⟩ : ByteArray).size = tl (⟨#[45]⟩ : ByteArray) from fun h => c (List.cons.inj h).1)]
        congr 2
        unfold negT; split
        · rename_i h; exact absurd (List.cons.inj h).1 c
        · rfl
      · rw [hl]
        unfold bodyT; split
        · rename_i h; exact absurd (List.cons.inj h).1 c
        · rfl
theorem body_len (l : List UInt8) : (bodyT l).length ≤ l.length := by
  unfold bodyT; split <;> simp
theorem mg_hex {s : Bool} {n : Nat} {e : Int} (hb : bl n ≤ 4800) (h1 : -1010000 ≤ e) (h2 : e ≤ 1010000) : Mg (sv s n) e := by
  have h : bl (sv s n).natAbs ≤ 4800 := by rw [sv_abs]; exact hb
  exact ⟨by omega, by omega, by omega⟩
theorem Parse_ev {f m : Int} (h : isF f) (hm : isM m) (s : ByteArray) : Ev (fun k => hexa_Parse.f k f m s) (hexS f m (tl s)) := by
  unfold hexa_Parse.f hexS
  refine Ev.bind (Over_ev h hm false) (ev_neg (by simp) ?_)
  by_cases c0 : 1200 < (tl s).length
  · rw [if_pos c0]
    exact ev_pos (by rw [tl_size_eq]; omega) (Ev.now _)
  rw [if_neg c0]
  refine ev_neg (by rw [tl_size_eq]; omega) ?_
  by_cases c1 : s = (⟨#[110, 97, 110]⟩ : ByteArray)
  · rw [if_pos (by rw [c1]; rfl)]
    exact ev_pos c1 (Ev.bind (word_None_ev h) (Ev.now _))
  rw [if_neg (fun h => c1 (tl_inj.1 (by rw [h]; rfl)))]
  refine ev_neg c1 ?_
  obtain ⟨s', hs, ht⟩ := cutMinus s
  refine ev_bind hs ?_
  have hbl := body_len (tl s)
  unfold hexB
  by_cases c2 : s' = (⟨#[105, 110, 102]⟩ : ByteArray)
  · rw [if_pos (by rw [← ht, c2]; rfl)]
    exact ev_pos c2 (Ev.bind (word_Inf_ev h _) (Ev.now _))
  rw [if_neg (fun h => c2 (tl_inj.1 (by rw [ht, h]; rfl)))]
  refine ev_neg c2 ?_
  have hz : s'.size ≤ 1200 := by rw [tl_size_eq, ht]; omega
  obtain ⟨mag, n, ok, hr, hc⟩ := read_ev hz
  rw [ht] at hc
  refine Ev.bind hr ?_
  rcases hc with ⟨rfl, h2, x, hx, rfl, rfl⟩ | ⟨rfl, h2⟩
  · rw [if_pos h2, hx]
    refine ev_neg (by simp) ?_
    obtain ⟨b1, b2, b3⟩ := readS_b (by rw [List.length_drop]; omega) hx
    show Ev _ (hexN f m (negT (tl s)) x)
    unfold hexN
    by_cases c3 : x.1 = 0
    · rw [if_pos c3]
      exact ev_pos (by simp only; rw [c3, D_zero]; rfl) (Ev.bind (word_Zero_ev h _) (Ev.now _))
    rw [if_neg c3]
    have hlD := D_bl b1
    refine ev_neg (fun h => c3 (D_inj (by rw [D_zero]; exact nil_len.1 h))) ?_
    refine Ev.bind (dyad_Make_ev (negT (tl s)) (Nm_D x.1) (by omega) x.2) ?_
    have hlw := lw_lt c3
    have hmk : makeR (negT (tl s)) (V (D x.1)) x.2 = ((mk (sv (negT (tl s)) x.1) x.2).1, (mk (sv (negT (tl s)) x.1) x.2).2.1, (mk (sv (negT (tl s)) x.1) x.2).2.2, 0) := by
      rw [V_D]
      unfold makeR
      rw [if_neg c3, if_neg (by omega), if_neg (by omega)]
    rw [hmk]
    obtain ⟨w1, w2, w3⟩ := w_sv (s := negT (tl s)) c3
    have hR := Round_mk h hm w3 (mg_hex (s := negT (tl s)) b1 b2 b3)
    rw [w1, w2] at hR
    exact Ev.bind hR (Ev.now _)
  · have he : (if (bodyT (tl s)).take 2 = [48, 120] then hexO f m (negT (tl s)) (readS ((bodyT (tl s)).drop 2)) else (0, 0, 12)) = ((0 : Int), (0 : Int), (12 : Int)) := by
      by_cases c : (bodyT (tl s)).take 2 = [48, 120]
      · rw [if_pos c, h2 c]; rfl
      · rw [if_neg c]
    rw [he]
    exact ev_pos rfl (Ev.now _)
theorem Parse_bad {f m : Int} (h : fmE f m ≠ 0) (s : ByteArray) : Ev (fun k => hexa_Parse.f k f m s) (0, 0, fmE f m) := by
  unfold hexa_Parse.f
  exact Ev.bind (Over_bad h false) (ev_pos h (Ev.now _))
theorem rParse_ev {f m : Int} (h : isF f) (hm : isM m) (s : ByteArray) : Ev (fun k => cutplaneref09_Parse.f k f m s) (hexS f m (tl s)) := by
  unfold cutplaneref09_Parse.f hexS
  by_cases c0 : 1200 < (tl s).length
  · rw [if_pos c0]
    exact ev_pos (by rw [tl_size_eq]; omega) (Ev.now _)
  rw [if_neg c0]
  refine ev_neg (by rw [tl_size_eq]; omega) ?_
  refine Ev.bind (rRead_ev (by rw [tl_size_eq]; omega)) ?_
  unfold rReadS
  by_cases c1 : tl s = [110, 97, 110]
  · rw [if_pos c1, if_pos c1]
    exact ev_neg (by simp) (ev_pos rfl (ev_bind (rNone_eq h) (Ev.now _)))
  rw [if_neg c1, if_neg c1]
  unfold rS hexB
  by_cases c2 : bodyT (tl s) = [105, 110, 102]
  · rw [if_pos c2, if_pos c2]
    refine ev_neg (by simp) (ev_neg ?_ (ev_pos rfl (ev_bind (rInf_eq h _) (Ev.now _))))
    intro hh
    have := tl_inj.2 hh
    exact absurd this (by show ¬ tl (⟨#[105, 110, 102]⟩ : ByteArray) = tl (⟨#[110, 97, 110]⟩ : ByteArray); decide)
  rw [if_neg c2, if_neg c2]
  have hbl := body_len (tl s)
  have hno : Ev (fun k => if (!rF.2.2.2.2) = true then (some ((0 : Int), (0 : Int), (12 : Int))) else (if rF.2.1 = (⟨#[110, 97, 110]⟩ : ByteArray) then ((cutplaneref03_None.f f).bind fun t581 => (some (t581, 0, 0))) else (if rF.2.1 = (⟨#[105, 110, 102]⟩ : ByteArray) then ((cutplaneref03_Inf.f f rF.1).bind fun t582 => (some (t582, 0, 0))) else (if (rF.2.2.1.length : Int) = 0 then ((cutplaneref03_Signed.f f 0 rF.1).bind fun t583 => (some (t583, 0, 0))) else (if rF.2.2.2.1 > 9000 then (cutplaneref09_Parse.j5 k f m rF.1 rF.2.1 rF.2.2.1 rF.2.2.2.1 9000) else (cutplaneref09_Parse.j5 k f m rF.1 rF.2.1 rF.2.2.1 rF.2.2.2.1 rF.2.2.2.1)))))) (0, 0, 12) := ev_pos rfl (Ev.now _)
  by_cases c3 : (bodyT (tl s)).take 2 = [48, 120]
  rotate_left
  · rw [if_neg c3, if_neg c3]
    exact hno
  rw [if_pos c3, if_pos c3]
  cases hx : readS ((bodyT (tl s)).drop 2) with
  | none => exact hno
  | some x =>
    obtain ⟨b1, b2, b3⟩ := readS_b (by rw [List.length_drop]; omega) hx
    show Ev _ (hexN f m (negT (tl s)) x)
    simp only [rO]
    have hemp : ∀ t : ByteArray, tl t ≠ [] → ¬ ((⟨#[]⟩ : ByteArray) = t) := by
      intro t ht hh
      rw [← hh] at ht
      exact ht rfl
    refine ev_neg (by simp) (ev_neg (hemp _ (by decide)) (ev_neg (hemp _ (by decide)) ?_))
    unfold hexN
    by_cases c4 : x.1 = 0
    · rw [if_pos c4]
      refine ev_pos (by rw [c4, D_zero]; rfl) ?_
      refine ev_bind (rSigned_eq h 0 _) ?_
      rw [Nat.zero_mod, Nat.zero_add]
      exact Ev.now _
    rw [if_neg c4]
    refine ev_neg (fun hh => c4 (D_inj (by rw [D_zero]; exact nil_len.1 hh))) ?_
    have hlD := D_bl b1
    obtain ⟨w1, w2, w3⟩ := w_sv (s := negT (tl s)) c4
    have hcl : -9000 ≤ clampE x.2 ∧ clampE x.2 ≤ 9000 := by unfold clampE; split; omega; split <;> omega
    have hj6 : ∀ nm ex, Ev (fun k => cutplaneref09_Parse.j6 k f m (negT (tl s)) nm (D x.1) ex (clampE x.2)) ((roundS f m (negT (tl s)) x.1 x.2).1, (roundS f m (negT (tl s)) x.1 x.2).2, 0) := by
      intro nm ex
      refine ev_step ?_; simp only [cutplaneref09_Parse.j6]
      refine Ev.bind (ref_Form_ev (negT (tl s)) (Nm_D x.1) (by omega) (by omega) (by omega)) ?_
      rw [V_D]
      have hR := rRound_ev h hm w3 (e := clampE x.2) (by rw [w2]; omega) (by omega) (by omega)
      rw [w1, w2, roundS_clamp h c4 b1] at hR
      exact Ev.bind hR (Ev.now _)
    by_cases c5 : x.2 > 9000
    · have e : clampE x.2 = 9000 := by unfold clampE; rw [if_pos c5]
      rw [e] at hj6
      refine ev_pos c5 ?_
      refine ev_step ?_; simp only [cutplaneref09_Parse.j5]
      exact ev_neg (by omega) (hj6 _ _)
    · refine ev_neg c5 ?_
      refine ev_step ?_; simp only [cutplaneref09_Parse.j5]
      by_cases c6 : x.2 < -9000
      · have e : clampE x.2 = -9000 := by unfold clampE; rw [if_neg c5, if_pos c6]
        rw [e] at hj6
        exact ev_pos c6 (hj6 _ _)
      · have e : clampE x.2 = x.2 := by unfold clampE; rw [if_neg c5, if_neg c6]
        rw [e] at hj6
        exact ev_neg c6 (hj6 _ _)
end Go.Proofs.YtbcjdlljmhfhdaaGreatDoor.Eng.K

/- Layer 9: the text of a word, what any text says, and that what is printed comes back. -/
set_option linter.unusedVariables false
set_option linter.unusedSimpArgs false
namespace Go.Proofs.YtbcjdlljmhfhdaaGreatDoor.Eng.K
open Go.RowKit Go.Proofs Go.Proofs.YtbcjdlljmhfhdaaGreatDoor.Eng
set_option maxRecDepth 100000
theorem hknown1 (k : Nat) : hexa_Print.f (k + 120) 1 3217031168 = some (⟨#[45, 48, 120, 49, 46, 56, 112, 48]⟩, 0) := by kernel_rfl
theorem hknown2 (k : Nat) : hexa_Parse.f (k + 200) 1 4 tx_03c0852d = some (1065353217, 16, 0) := by kernel_rfl
theorem ev_from {α : Type} {g : Nat → Option α} {r : α} {n : Nat} (h : ∀ k, g (k + n) = some r) : Ev g r := ⟨n, fun k hk => by have := h (k - n); rwa [Nat.sub_add_cancel hk] at this⟩
theorem hknown_ev : Ev (fun k => cutplanelaw09_known.f k) true := by
  unfold cutplanelaw09_known.f
  refine Ev.bind (ev_from hknown1) (Ev.bind (ev_from hknown2) ?_)
  exact ev_pos rfl (ev_pos rfl (ev_pos rfl (ev_pos rfl (ev_eq (Ev.now _) (by simp)))))
theorem hknown_then : Ev (fun k => (cutplanelaw09_known.f k).bind fun t => some t) true := Ev.bind hknown_ev (Ev.now _)
theorem HexaReads (f m : Int) (s : ByteArray) : Ev (fun k => cutplanelaw09_HexaReads.f k f m s) true := by
  unfold cutplanelaw09_HexaReads.f
  by_cases h : isF f
  rotate_left
  · have hb : fmE f m = 4 := by unfold fmE; rw [if_neg h]
    have hp := Parse_bad (f := f) (m := m) (by omega) s
    rw [hb] at hp
    refine Ev.bind hp (ev_bind (rIs_eq f) ?_)
    rw [decide_eq_false h]
    exact ev_pos rfl (ev_pos rfl (ev_pos rfl (ev_pos rfl hknown_then)))
  by_cases hm : isM m
  rotate_left
  · have hb : fmE f m = 5 := by unfold fmE; rw [if_pos h, if_neg hm]
    have hp := Parse_bad (f := f) (m := m) (by omega) s
    rw [hb] at hp
    refine Ev.bind hp (ev_bind (rIs_eq f) ?_)
    rw [decide_eq_true h]
    refine ev_neg (by simp) (ev_bind (rIsM_eq m) ?_)
    rw [decide_eq_false hm]
    exact ev_pos rfl (ev_pos rfl (ev_pos rfl (ev_pos rfl hknown_then)))
  refine Ev.bind (Parse_ev h hm s) (ev_bind (rIs_eq f) ?_)
  rw [decide_eq_true h]
  refine ev_neg (by simp) (ev_bind (rIsM_eq m) ?_)
  rw [decide_eq_true hm]
  exact ev_neg (by simp) (Ev.bind (rParse_ev h hm s) (ev_pos rfl (ev_pos rfl (ev_pos rfl hknown_then))))
/-! ### what is printed comes back -/
end Go.Proofs.YtbcjdlljmhfhdaaGreatDoor.Eng.K

