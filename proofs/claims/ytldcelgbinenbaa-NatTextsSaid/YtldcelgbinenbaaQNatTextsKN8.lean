/- The first layer's plain functions: what a decimal text says. -/
import Derived.Test.YtldcelgbinenbaaQNatTextsKN7
set_option linter.unusedVariables false
set_option linter.unusedSimpArgs false
namespace Go.Proofs.Ytldcelgbinenbaa.K
open Go Go.RowKit Go.Proofs.Ytldcelgbinenbaa.Px Go.Proofs.YtldcelgbinenbaaW.PrintWords Go.Proofs.YtldcelgbinenbaaW.PrintLast Go.Proofs.YtldcelgbinenbaaW.PrintMore

/-- what digits say, behind a -/
def pvA : Nat → List Int → Nat
  | a, [] => a
  | a, c :: l => pvA (10 * a + (c - 48).toNat) l
theorem pvA_eq : ∀ (l : List Int) (a : Nat), pvA a l = a * 10 ^ l.length + pvA 0 l
  | [], a => by simp [pvA]
  | c :: l, a => by
    rw [pvA, pvA, pvA_eq l (10 * a + (c - 48).toNat), pvA_eq l (10 * 0 + (c - 48).toNat), List.length_cons, Nat.pow_succ]
    grind
theorem pvA_app (l m : List Int) (a : Nat) : pvA a (l ++ m) = pvA (pvA a l) m := by
  induction l generalizing a with
  | nil => rfl
  | cons c l ih => simp [pvA, ih]
def pv (l : List Int) : Nat := pvA 0 l
theorem pv_app (l m : List Int) : pv (l ++ m) = pv l * 10 ^ m.length + pv m := by
  unfold pv; rw [pvA_app, pvA_eq]
theorem pv_snoc (l : List Int) (c : Int) : pv (l ++ [c]) = 10 * pv l + (c - 48).toNat := by
  rw [pv_app]; simp [pv, pvA]; omega
def digs (l : List Int) : Prop := ∀ x ∈ l, 48 ≤ x ∧ x ≤ 57
instance (l : List Int) : Decidable (digs l) := inferInstanceAs (Decidable (∀ x ∈ l, 48 ≤ x ∧ x ≤ 57))
theorem pv_lt {l : List Int} (h : digs l) : pv l < 10 ^ l.length := by
  induction l with
  | nil => simp [pv, pvA]
  | cons c l ih =>
    have h1 := h c (by simp)
    have h2 := ih (fun x hx => h x (by simp [hx]))
    have e : pv (c :: l) = (c - 48).toNat * 10 ^ l.length + pv l := by
      have := pv_app [c] l
      simpa [pv, pvA] using this
    rw [e, List.length_cons, Nat.pow_succ]
    have h3 : (c - 48).toNat * 10 ^ l.length ≤ 9 * 10 ^ l.length := Nat.mul_le_mul_right _ (by omega)
    omega
theorem pv_take_le (l : List Int) (n : Nat) : pv (l.take n) ≤ pv l := by
  have h := pv_app (l.take n) (l.drop n)
  rw [List.take_append_drop] at h
  have : pv (l.take n) * 1 ≤ pv (l.take n) * 10 ^ (l.drop n).length := Nat.mul_le_mul_left _ (Nat.one_le_pow _ _ (by omega))
  omega
/-- which texts say a number -/
def isT (l : List Int) : Bool := decide (digs l) && (decide (l.length = 1) || decide (1 < l.length) && decide (l.getD 0 0 ≠ 48))

/-! ### times a factor, and a digit -/
theorem Nm_of_ge {l : List Int} (h : Dg l) (k : l = [] ∨ 4294967296 ^ (l.length - 1) ≤ V l) : Nm l := by
  rw [Nm_iff h]
  rcases k with k | k
  · exact .inl k
  · by_cases e : l = []
    · exact .inl e
    · right
      intro h0
      have hl : l.length ≠ 0 := fun e' => e (List.eq_nil_of_length_eq_zero e')
      have h1 := V_take_succ (l := l) (n := l.length - 1) (by omega)
      rw [Nat.sub_add_cancel (by omega), List.take_length, h0] at h1
      have h2 := V_take_lt h (n := l.length - 1) (by omega)
      simp at h1
      omega
/-- the digits times t, and c ahead -/
def maRec : List Int → Nat → Nat → List Int
  | [], _, c => if c = 0 then [] else [((c : Nat) : Int)]
  | x :: l, t, c => (((x.toNat * t + c) % 4294967296 : Nat) : Int) :: maRec l t ((x.toNat * t + c) / 4294967296)
theorem ma_bd {x t c : Nat} (hx : x < 4294967296) (hc : c < t) : (x * t + c) / 4294967296 < t := by
  apply (Nat.div_lt_iff_lt_mul (by omega)).2
  have h1 : x * t ≤ 4294967295 * t := Nat.mul_le_mul_right _ (by omega)
  omega
theorem maRec_V {l : List Int} (h : Dg l) {t c : Nat} (hc : c < t) (ht : t < 4294967296) : V (maRec l t c) = V l * t + c ∧ Dg (maRec l t c) := by
  induction l generalizing c with
  | nil =>
    unfold maRec
    split
    · subst c; exact ⟨by simp, Dg.nil⟩
    · exact ⟨by simp, Dg.cons (by omega) (by omega) Dg.nil⟩
  | cons x l ih =>
    have hx := h.head
    have hb := ma_bd (x := x.toNat) (by omega) hc
    have := ih h.tail hb
    refine ⟨?_, Dg.cons (by omega) (by omega) this.2⟩
    rw [maRec, V_cons, this.1, V_cons, Nat.add_mul, Nat.mul_add, Nat.mul_assoc]
    generalize x.toNat * t = p
    generalize V l * t = q
    rw [Int.toNat_natCast]
    omega
theorem maRec_D {n t c : Nat} (hc : c < t) (ht : t < 4294967296) : maRec (D n) t c = D (n * t + c) := by
  have h := maRec_V (Dg_D n) hc ht
  rw [V_D] at h
  have hlen : ∀ (l : List Int) (c : Nat), maRec l t c = [] ∨ (maRec l t c).length = l.length ∨ ∃ m d, maRec l t c = m ++ [d] ∧ d ≠ 0 := by
    intro l
    induction l with
    | nil =>
      intro c
      unfold maRec
      split
      · exact .inl rfl
      · exact .inr (.inr ⟨[], _, rfl, by omega⟩)
    | cons x l ih =>
      intro c
      rw [maRec]
      rcases ih ((x.toNat * t + c) / 4294967296) with h | h | ⟨m, d, h, hd⟩
      · rw [h]
        cases l with
        | nil => exact .inr (.inl rfl)
        | cons y l => simp [maRec] at h
      · exact .inr (.inl (by simp [h]))
      · exact .inr (.inr ⟨_ :: m, d, by rw [h]; rfl, hd⟩)
  have key : Nm (maRec (D n) t c) := by
    rcases hlen (D n) c with e | e | ⟨m, d, e, hd⟩
    · rw [e]; exact Nm_nil
    · by_cases hn : n = 0
      · subst hn
        rw [D_zero] at e
        have e2 : maRec (D 0) t c = [] := by rw [D_zero]; exact List.eq_nil_of_length_eq_zero e
        rw [e2]; exact Nm_nil
      · apply Nm_of_ge h.2
        right
        rw [e, h.1]
        have := D_len_ge hn
        have h2 : n * 1 ≤ n * t := Nat.mul_le_mul_left _ (by omega)
        omega
    · have hg := h.2
      rw [e] at hg ⊢
      have := hg d (by simp)
      exact Nm_snoc hg.left (by omega) this.2
  rw [← key, h.1]
theorem uu {x t c : Int} (hx : 0 ≤ x ∧ x < 4294967296) (ht : 0 ≤ t ∧ t < 4294967296) (hc : 0 ≤ c ∧ c < 4294967296) : IntKind.u64.wrap (c + IntKind.u64.wrap (IntKind.u64.wrap x * t)) = x * t + c := by
  have hp := mul_bd hx ht
  rw [u64 hx.1 (by omega), u64 hp.1 (by omega), u64 (by omega) (by omega)]; omega
theorem natmul (x : Int) (t c : Nat) (hx : 0 ≤ x) : x * (t : Int) + (c : Int) = ((x.toNat * t + c : Nat) : Int) := by
  obtain ⟨X, rfl⟩ := Int.eq_ofNat_of_zero_le hx
  simp
theorem nd (a : Nat) : ((a : Nat) : Int) % 4294967296 = ((a % 4294967296 : Nat) : Int) ∧ ((a : Nat) : Int) / 4294967296 = ((a / 4294967296 : Nat) : Int) := by omega

/-! ### the program's way: nine digits at a time -/
section
variable (s : ByteArray)
theorem parse_l3 (at' t : Nat) (ht : t < 4294967296) {res : List Int × Int} (full : List Int) (hf : full.length < 1000000000) : ∀ (l done : List Int) (c : Nat), c < t → Dg l → done.length + l.length < 1000000000 → full = done ++ maRec l t c →
    (Ev (fun k => if (full.length : Int) > 4096 then some ([], 3) else nat_Parse.l1 k s full (at' : Int)) res) →
    Ev (fun k => nat_Parse.l3 k s (done ++ l) at' t c ((done.length + l.length : Nat) : Int) done.length) res
  | [], done, c, hc, hg, hl, hfull, H => by
    refine ev_step ?_
    simp only [nat_Parse.l3]
    refine ev_neg (by simp) ?_
    rw [List.append_nil]
    by_cases h0 : c = 0
    · have e : full = done := by rw [hfull]; simp [maRec, h0]
      rw [e] at H
      exact ev_neg (by omega) H
    · have e : full = done ++ [((c : Nat) : Int) % 4294967296] := by
        rw [hfull]; simp [maRec, h0]; omega
      rw [e] at H
      exact ev_pos (by omega) (ev_pos (by omega) (ev_bind rfl H))
  | x :: l, done, c, hc, hg, hl, hfull, H => by
    have hx := hg.head
    have hb := ma_bd (x := x.toNat) (by omega) hc
    have hu := uu hx (t := (t : Int)) (by omega) (c := (c : Int)) (by omega)
    rw [natmul x t c hx.1] at hu
    have hn := nd (x.toNat * t + c)
    have hr : rd (done ++ x :: l) (done.length : Int) = x := rd_app rfl
    refine ev_step ?_
    simp only [nat_Parse.l3, hr, hu, hn.1, hn.2, set_app rfl, w64s (n := done.length) (by omega)]
    clear hu hn
    refine ev_pos (by simp; omega) (ev_pos (by omega) (ev_pos (by simp; omega) ?_))
    have := parse_l3 at' t ht full hf l (done ++ [((((x.toNat * t + c) % 4294967296 : Nat)) : Int)]) _ hb hg.tail (by simp at hl ⊢; omega) (by rw [hfull, maRec]; simp) H
    rw [List.length_append, List.length_singleton] at this
    have e : done.length + (x :: l).length = done.length + 1 + l.length := by simp; omega
    rw [e]; exact this
theorem bt_get (i : Nat) : bt s (i : Int) = (bytesOf s).getD i 0 := by rw [← rd_bytesOf, rdn]
theorem parse_l2 (hd : digs (bytesOf s)) (n next : Nat) (hn : next ≤ s.size) (hs : s.size < 1000000000000) {res : List Int × Int} (hln : (D n).length < 100000000)
    (H : ∀ t c, t < 4294967296 → c < t → t = t → Ev (fun k => nat_Parse.l3 k s (D n) next t c ((D n).length : Int) 0) res → True) :
    ∀ (d i t c : Nat), i + d = next → t * 10 ^ d ≤ 1000000000 → c < t →
    Ev (fun k => nat_Parse.l3 k s (D n) next ((t * 10 ^ d : Nat) : Int) ((c * 10 ^ d + pv (((bytesOf s).drop i).take d) : Nat) : Int) ((D n).length : Int) 0) res →
    Ev (fun k => nat_Parse.l2 k s (D n) i next t c) res
  | 0, i, t, c, hi, ht, hc, h => by
    refine ev_step ?_
    simp only [nat_Parse.l2]
    refine ev_neg (by omega) ?_
    rw [show next = i by omega] at h
    simpa [pv, pvA] using h
  | d + 1, i, t, c, hi, ht, hc, h => by
    have hlen : (bytesOf s).length = s.size := bytesOf_length s
    have hget : (bytesOf s).drop i = (bytesOf s).getD i 0 :: (bytesOf s).drop (i + 1) := by
      rw [List.drop_eq_getElem_cons (by omega)]; simp [show i < (bytesOf s).length by omega]
    have hdi := hd ((bytesOf s).getD i 0) (by
      have : i < (bytesOf s).length := by omega
      rw [List.getD_eq_getElem?_getD, List.getElem?_eq_getElem this]; exact List.getElem_mem this)
    generalize hx : (bytesOf s).getD i 0 = x at hget hdi
    have hp : 1 ≤ 10 ^ d := Nat.one_le_pow _ _ (by omega)
    have ht10 : t * 10 * 10 ^ d = t * 10 ^ (d + 1) := by rw [Nat.pow_succ, Nat.mul_assoc, Nat.mul_comm 10]
    have ht9 : t * 10 ≤ 1000000000 := by
      have : t * 10 * 1 ≤ t * 10 * 10 ^ d := Nat.mul_le_mul_left _ hp
      omega
    refine ev_step ?_
    simp only [nat_Parse.l2, w64s (n := i) (by omega), bt_get, hx]
    refine ev_pos (by omega) (ev_pos (by omega) (ev_pos (by omega) ?_))
    have e1 : IntKind.u64.wrap ((t : Int) * 10) = ((t * 10 : Nat) : Int) := by rw [u64 (by omega) (by omega)]; omega
    have e2 : IntKind.u64.wrap (IntKind.u64.wrap (10 * (c : Int)) + ((x - 48) % 256)) = ((10 * c + (x - 48).toNat : Nat) : Int) := by
      rw [u64 (n := 10 * (c : Int)) (by omega) (by omega), u64 (by omega) (by omega)]; omega
    rw [e1, e2]
    clear e1 e2
    refine parse_l2 hd n next hn hs hln H d (i + 1) (t * 10) (10 * c + (x - 48).toNat) (by omega) (by omega) (by omega) ?_
    rw [hget, List.take_succ_cons] at h
    have e3 : c * 10 ^ (d + 1) + pv (x :: ((bytesOf s).drop (i + 1)).take d) = (10 * c + (x - 48).toNat) * 10 ^ d + pv (((bytesOf s).drop (i + 1)).take d) := by
      have hq := pv_app [x] (((bytesOf s).drop (i + 1)).take d)
      have hl : (((bytesOf s).drop (i + 1)).take d).length = d := by rw [List.length_take, List.length_drop]; omega
      rw [hl] at hq
      have hq1 : pv [x] = (x - 48).toNat := by simp [pv, pvA]
      rw [hq1] at hq
      rw [List.singleton_append] at hq
      rw [hq, Nat.pow_succ, Nat.add_mul, Nat.mul_comm 10 c, Nat.mul_assoc, Nat.mul_comm (10 ^ d) 10, Nat.add_assoc]
    rw [e3, ← ht10] at h
    exact h
theorem take_split (l : List Int) (i d : Nat) : l.take (i + d) = l.take i ++ (l.drop i).take d := by
  rw [List.take_add]
theorem parse_l1 (hd : digs (bytesOf s)) (hs : s.size < 100000000) : ∀ (r i : Nat), i + r = s.size → (D (pv ((bytesOf s).take i))).length ≤ 4096 → Ev (fun k => nat_Parse.l1 k s (D (pv ((bytesOf s).take i))) i) (bound (pv (bytesOf s))) := by
  intro r
  induction r using Nat.strongRecOn with
  | _ r ih =>
    intro i hi hl
    have hlen : (bytesOf s).length = s.size := bytesOf_length s
    refine ev_step ?_
    simp only [nat_Parse.l1]
    by_cases c : r = 0
    · refine ev_neg (by omega) (ev_eq (Ev.now _) ?_)
      have e : (bytesOf s).take i = bytesOf s := List.take_of_length_le (by omega)
      rw [e] at hl ⊢
      unfold bound; rw [if_neg (by omega)]
    · refine ev_pos (by omega) ?_
      -- a chunk of d digits
      have chunk : ∀ d, 0 < d → d ≤ 9 → d ≤ r → Ev (fun k => nat_Parse.j4 k s (D (pv ((bytesOf s).take i))) i ((i + d : Nat) : Int)) (bound (pv (bytesOf s))) := by
        intro d h0 h9 hr
        refine ev_step ?_
        simp only [nat_Parse.j4]
        have hp9 : 1 * 10 ^ d ≤ 1000000000 := by
          have : 10 ^ d ≤ 10 ^ 9 := Nat.pow_le_pow_right (by omega) h9
          omega
        have hlc : (((bytesOf s).drop i).take d).length = d := by rw [List.length_take, List.length_drop]; omega
        have hpl : pv (((bytesOf s).drop i).take d) < 10 ^ d := by
          have := pv_lt (l := ((bytesOf s).drop i).take d) (fun x hx => hd x (List.mem_of_mem_drop (List.mem_of_mem_take hx)))
          rwa [hlc] at this
        refine parse_l2 s hd _ (i + d) (by omega) (by omega) (by omega) (fun _ _ _ _ _ _ => trivial) d i 1 0 rfl hp9 (by omega) ?_
        rw [Nat.one_mul, Nat.zero_mul, Nat.zero_add]
        have e : pv ((bytesOf s).take (i + d)) = pv ((bytesOf s).take i) * 10 ^ d + pv (((bytesOf s).drop i).take d) := by
          rw [take_split, pv_app, hlc]
        have hD := maRec_D (n := pv ((bytesOf s).take i)) hpl (by omega)
        rw [← e] at hD
        have hDl : (D (pv ((bytesOf s).take (i + d)))).length < 1000000000 := by
          have h1 := lt_D_len (pv ((bytesOf s).take i))
          have h2 : pv ((bytesOf s).take (i + d)) < 4294967296 ^ ((D (pv ((bytesOf s).take i))).length + 1) := by
            rw [e, Nat.pow_succ]
            have h3 : (pv ((bytesOf s).take i) + 1) * 10 ^ d ≤ 4294967296 ^ (D (pv ((bytesOf s).take i))).length * 4294967296 := Nat.mul_le_mul h1 (by omega)
            rw [Nat.add_mul] at h3
            omega
          have := D_len_lt h2
          omega
        have := parse_l3 s (i + d) (10 ^ d) (by omega) (res := bound (pv (bytesOf s))) (D (pv ((bytesOf s).take (i + d)))) hDl (D (pv ((bytesOf s).take i))) [] (pv (((bytesOf s).drop i).take d)) hpl (Dg_D _) (by simp; omega) (by rw [hD]; rfl) ?_
        · simpa using this
        · by_cases c2 : (D (pv ((bytesOf s).take (i + d)))).length > 4096
          · refine ev_pos (by omega) (ev_eq (Ev.now _) ?_)
            have := D_len_mono (pv_take_le (bytesOf s) (i + d))
            unfold bound; rw [if_pos (by omega)]
          · exact ev_neg (by omega) (ih (r - d) (by omega) (i + d) (by omega) (by omega))
      have e9 : mn (s.size : Int) (wrap64 ((i : Int) + 9)) = ((i + min r 9 : Nat) : Int) := by
        have : wrap64 ((i : Int) + 9) = (i : Int) + 9 := by unfold wrap64; omega
        rw [this]; unfold mn; split <;> omega
      have j3 : ∀ z, z = false → Ev (fun k => nat_Parse.j3 k s (D (pv ((bytesOf s).take i))) i ((i + min r 9 : Nat) : Int) z) (bound (pv (bytesOf s))) := by
        rintro z rfl
        refine ev_step ?_
        simp only [nat_Parse.j3]
        exact ev_neg (by simp) (chunk _ (by omega) (by omega) (by omega))
      rw [e9]
      by_cases c1 : i = 0
      · refine ev_pos (by omega) ?_
        by_cases c2 : s.size % 9 = 0
        · exact j3 _ (by simp; omega)
        · have hb : (((s.size : Int) % 9) != 0) = true := by simp; omega
          rw [hb]
          refine ev_step ?_
          simp only [nat_Parse.j3]
          refine ev_pos trivial ?_
          have := chunk (s.size % 9) (by omega) (by omega) (by omega)
          have e : ((i + s.size % 9 : Nat) : Int) = (s.size : Int) % 9 := by omega
          rw [e] at this; exact this
      · exact ev_neg (by omega) (j3 _ rfl)
theorem getD_mem {l : List Int} {i : Nat} (h : i < l.length) : l.getD i 0 ∈ l := by
  rw [List.getD_eq_getElem?_getD, List.getElem?_eq_getElem h]; exact List.getElem_mem h
theorem parse_l0 (hs : s.size < 100000000) : ∀ (r i : Nat), i + r = s.size → (∀ j, j < i → 48 ≤ (bytesOf s).getD j 0 ∧ (bytesOf s).getD j 0 ≤ 57) → Ev (fun k => nat_Parse.l0 k s s.size i) (if digs (bytesOf s) then bound (pv (bytesOf s)) else ([], 12))
  | 0, i, hi, hj => by
    have hlen : (bytesOf s).length = s.size := bytesOf_length s
    have hd : digs (bytesOf s) := by
      intro x hx
      obtain ⟨j, hj', rfl⟩ := List.getElem_of_mem hx
      have := hj j (by omega)
      simpa [hj'] using this
    refine ev_step ?_
    simp only [nat_Parse.l0]
    refine ev_neg (by omega) ?_
    rw [if_pos hd]
    have := parse_l1 s hd hs s.size 0 (by omega) (by simp [pv, pvA, D_zero])
    simpa [pv, pvA, D_zero] using this
  | r + 1, i, hi, hj => by
    have hlen : (bytesOf s).length = s.size := bytesOf_length s
    have hm := getD_mem (l := bytesOf s) (i := i) (by omega)
    refine ev_step ?_
    simp only [nat_Parse.l0, bt_get, w64s (n := i) (by omega)]
    refine ev_pos (by omega) (ev_pos (by omega) (ev_pos (by omega) ?_))
    by_cases c1 : (bytesOf s).getD i 0 < 48
    · refine ev_pos c1 (ev_eq (Ev.now _) ?_)
      rw [if_neg]; intro hd; have := hd _ hm; omega
    · refine ev_neg c1 ?_
      by_cases c2 : (bytesOf s).getD i 0 > 57
      · refine ev_pos c2 (ev_eq (Ev.now _) ?_)
        rw [if_neg]; intro hd; have := hd _ hm; omega
      · refine ev_neg c2 (parse_l0 hs r (i + 1) (by omega) ?_)
        intro j hj'
        by_cases e : j = i
        · subst e; omega
        · exact hj j (by omega)
def parsed (l : List Int) : List Int × Int := if isT l then bound (pv l) else ([], 12)
theorem toList_nil : (s.toList = ([] : List UInt8)) ↔ s.size = 0 := by
  rw [Lib.toList_data]
  constructor
  · intro h; rw [← data_length, h]; rfl
  · intro h; rw [← data_length] at h; exact List.eq_nil_of_length_eq_zero h
theorem nat_Parse_ev (hs : s.size < 100000000) : Ev (fun k => nat_Parse.f k s) (parsed (bytesOf s)) := by
  have hlen : (bytesOf s).length = s.size := bytesOf_length s
  have no : ∀ z, z = true → isT (bytesOf s) = false → Ev (fun k => nat_Parse.j0 k s z) (parsed (bytesOf s)) := by
    rintro z rfl h
    refine ev_step ?_
    simp only [nat_Parse.j0]
    refine ev_pos trivial ?_
    unfold parsed; rw [h]; exact Ev.now _
  have yes : ∀ z, z = false → (isT (bytesOf s) = decide (digs (bytesOf s))) → Ev (fun k => nat_Parse.j0 k s z) (parsed (bytesOf s)) := by
    rintro z rfl h
    refine ev_step ?_
    simp only [nat_Parse.j0]
    refine ev_neg (by simp) ?_
    have := parse_l0 s hs s.size 0 (by omega) (fun j hj => by omega)
    refine ev_eq this ?_
    unfold parsed; rw [h]
    simp only [decide_eq_true_eq]
  unfold nat_Parse.f
  by_cases c0 : s.size = 0
  · refine ev_pos ((toList_nil s).2 c0) (no true rfl ?_)
    unfold isT; simp [hlen, c0]
  · refine ev_neg (fun h => c0 ((toList_nil s).1 h)) ?_
    by_cases c1 : s.size > 1
    · refine ev_pos (by omega) (ev_pos (by omega) ?_)
      have e : bt s 0 = (bytesOf s).getD 0 0 := bt_get s 0
      rw [e]
      by_cases c2 : (bytesOf s).getD 0 0 = 48
      · refine no _ (beq_iff_eq.2 c2) ?_
        unfold isT; rw [hlen, c2]; simp; omega
      · refine yes _ (beq_eq_false_iff_ne.2 c2) ?_
        unfold isT; rw [hlen, decide_eq_true c1, decide_eq_true c2]; simp
    · refine ev_neg (by omega) (yes _ rfl ?_)
      unfold isT; rw [hlen]; simp [show s.size = 1 by omega]
end
end Go.Proofs.Ytldcelgbinenbaa.K
