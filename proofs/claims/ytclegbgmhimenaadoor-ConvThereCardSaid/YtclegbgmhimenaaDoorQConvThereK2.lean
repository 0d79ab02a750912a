import Derived.Test.YtclegbgmhimenaaDoorQConvThereK1
set_option linter.unusedVariables false
set_option linter.unusedSimpArgs false
/- Remainders of words, both ways; what is known. -/
set_option linter.unusedVariables false
set_option linter.unusedSimpArgs false
namespace Go.Proofs.YtclegbgmhimenaaDoor.Eng.K
open Go.RowKit

/-- A finite word's number, in its one form. -/
def wv (f : Int) (w : Nat) : Bool × List Int × Int := mk (sv (wneg f w) (wmag f w)) (wex f w)
structure Wv (f : Int) (w : Nat) : Prop where
  dy : Dy (wv f w).1 (wv f w).2.1 (wv f w).2.2
  ne : V (wv f w).2.1 ≠ 0
  b : bl (V (wv f w).2.1) ≤ pr f
  lo : lo f ≤ (wv f w).2.2
  hi : (wv f w).2.2 + (bl (V (wv f w).2.1) : Nat) = wex f w + (bl (wmag f w) : Nat)
  s : (wv f w).1 = wneg f w
theorem fin_top {f : Int} (h : isF f) {w : Nat} (h2 : cls f w < 4) : wex f w + (bl (wmag f w) : Nat) ≤ wd f := by
  rw [cls_eq h] at h2
  have h3 := wmag_bl h w
  have h4 := fits_room h
  have h5 := wfrac_lt f w
  have h6 := pr_eq h
  have h7 := mo_ge h
  have hlo := lo_b h
  have hwd := wd_b h
  by_cases c : wexpo f w = 0
  · unfold wex; rw [if_pos c]
    have := fb_le h
    omega
  · rw [if_neg c] at h2
    have : wexpo f w < mo f := by
      rcases Nat.lt_or_ge (wexpo f w) (mo f) with c2 | c2
      · exact c2
      · rw [if_neg (by omega)] at h2; split at h2 <;> omega
    unfold wex; rw [if_neg c]
    omega
theorem wv_ok {f : Int} (h : isF f) {w : Nat} (h1 : cls f w ≠ 1) (h2 : cls f w < 4) : Wv f w := by
  have hn := cls_num h h1 h2
  obtain ⟨a1, a2, a3⟩ := w_sv (s := wneg f w) hn
  obtain ⟨j, j1, j2, j3, j4⟩ := mz_abs a3 (wex f w)
  have hb := wmag_bl h w
  have hl : lo f ≤ wex f w := by
    unfold wex
    split <;> omega
  rw [a2] at j1
  have hbl : bl (wmag f w) = bl (V (wv f w).2.1) + j := by rw [j1]; exact bl_up j4 j
  have e2 : (wv f w).2.2 = wex f w + j := j2
  refine ⟨Dy_mk _ _, j4, by omega, by omega, by omega, ?_⟩
  show (mk _ _).1 = _
  rw [j3, a1]
/-- What is left. -/
def remA (f : Int) (a b : Nat) : Nat := V (wv f a).2.1 * 2 ^ ((wv f a).2.2 - min (wv f a).2.2 (wv f b).2.2).toNat
def remB (f : Int) (a b : Nat) : Nat := V (wv f b).2.1 * 2 ^ ((wv f b).2.2 - min (wv f a).2.2 (wv f b).2.2).toNat
def remZ (f : Int) (a b : Nat) : Int := sI (wneg f a) (remI (remA f a b) (remB f a b))
def remU (f : Int) (a b : Nat) : Int := min (wv f a).2.2 (wv f b).2.2
def remS (f : Int) (a b : Nat) : Int × Int :=
  if cls f a = 5 ∨ cls f b = 5 then ((nanW f : Int), 0) else if cls f a = 4 ∨ cls f b = 1 then ((nanW f : Int), 1) else if cls f b = 4 ∨ cls f a = 1 then ((a : Int), 0)
  else if remZ f a b = 0 then ((sgn f (wneg f a) : Int), 0) else (((encN f (remZ f a b).natAbs (remU f a b) + sgn f (decide (remZ f a b < 0)) : Nat) : Int), 0)
theorem rem_fits {f : Int} (h : isF f) {a b : Nat} (ha1 : cls f a ≠ 1) (ha2 : cls f a < 4) (hb1 : cls f b ≠ 1) (hb2 : cls f b < 4) : (remZ f a b).natAbs ≤ 2 ^ pr f ∧ lo f ≤ remU f a b ∧ (bl (remZ f a b).natAbs : Int) + remU f a b ≤ wd f := by
  have wa := wv_ok h ha1 ha2
  have wb := wv_ok h hb1 hb2
  have hB : 0 < remB f a b := Nat.mul_pos (Nat.pos_of_ne_zero wb.ne) (pw_pos _)
  have hle := remI_le (remA f a b) (remB f a b) hB
  have hab : (remZ f a b).natAbs = (remI (remA f a b) (remB f a b)).natAbs := by unfold remZ sI; split <;> omega
  rw [hab]
  have ft := fin_top h ha2
  have la := wa.lo
  have lb := wb.lo
  have hi := wa.hi
  refine ⟨?_, by unfold remU; omega, ?_⟩
  · rcases Int.le_total (wv f a).2.2 (wv f b).2.2 with c | c
    · have e : remA f a b = V (wv f a).2.1 := by unfold remA; rw [Int.min_eq_left c, Int.sub_self]; simp
      have h1 := lt_bl (V (wv f a).2.1)
      have h2 : 2 ^ bl (V (wv f a).2.1) ≤ 2 ^ pr f := Nat.pow_le_pow_right (by omega) wa.b
      omega
    · have e : remB f a b = V (wv f b).2.1 := by unfold remB; rw [Int.min_eq_right c, Int.sub_self]; simp
      have h1 := lt_bl (V (wv f b).2.1)
      have h2 : 2 ^ bl (V (wv f b).2.1) ≤ 2 ^ pr f := Nat.pow_le_pow_right (by omega) wb.b
      omega
  · have h1 := bl_mono hle.1
    have h2 : bl (remA f a b) = bl (V (wv f a).2.1) + ((wv f a).2.2 - min (wv f a).2.2 (wv f b).2.2).toNat := bl_up wa.ne _
    unfold remU
    omega
theorem wv_b {f : Int} (h : isF f) {w : Nat} (hw : Wv f w) (h2 : cls f w < 4) : -5000 ≤ (wv f w).2.2 ∧ (wv f w).2.2 ≤ 5000 ∧ bl (V (wv f w).2.1) ≤ 64 := by
  have := hw.lo
  have := hw.hi
  have := hw.b
  have := lo_b h
  have := wd_b h
  have := fin_top h h2
  have := pr_eq h
  have := fb_le h
  refine ⟨by omega, by omega, by omega⟩
theorem zero_word {f : Int} (h : isF f) {w : Nat} (hw : w < 2 * sg f) (hc : cls f w = 1) : w = sgn f (wneg f w) := by
  have hz : w % sg f = 0 := by
    unfold cls at hc
    split at hc
    · assumption
    · split at hc
      · omega
      · split at hc
        · omega
        · split at hc <;> omega
  have hp := (sg_pos h).1
  unfold sgn wneg
  by_cases c : sg f ≤ w
  · rw [if_pos (decide_eq_true c)]
    have h1 := Nat.mod_eq_sub_mod c
    rw [hz, Nat.mod_eq_of_lt (by omega)] at h1
    omega
  · rw [if_neg (by simpa using c)]
    rw [Nat.mod_eq_of_lt (by omega)] at hz
    exact hz
theorem Rem_j3 {f : Int} (h : isF f) {a b : Nat} (ha : a < 2 * sg f) (hb : b < 2 * sg f) (ha2 : cls f a < 4) (hb1 : cls f b ≠ 1) (hb2 : cls f b < 4) (ha1 : cls f a ≠ 1) :
    Ev (fun k => conv_Rem.j3 k f (a : Int) (b : Int) (wneg f a) false) ((remS f a b).1, (remS f a b).2, 0) := by
  have wa := wv_ok h ha1 ha2
  have wb := wv_ok h hb1 hb2
  obtain ⟨b1, b2, b3⟩ := wv_b h wa ha2
  obtain ⟨c1, c2, c3⟩ := wv_b h wb hb2
  have hl := left_ev wa.dy wb.dy wa.ne wb.ne b3 c3 b1 b2 c1 c2
  rw [wa.s] at hl
  have hl : Ev (fun k => conv_left.f k (wneg f a) (wv f a).2.1 (wv f a).2.2 (wv f b).1 (wv f b).2.1 (wv f b).2.2) (mk (remZ f a b) (remU f a b)) := hl
  rw [← wa.s] at hl
  obtain ⟨f1, f2, f3⟩ := rem_fits h ha1 ha2 hb1 hb2
  have hwd := wd_b h
  have hlo := lo_b h
  have hmy := my_of (z := remZ f a b) (e := remU f a b) ⟨by
    have h1 : bl (remZ f a b).natAbs ≤ pr f + 1 := bl_le_of_lt (Nat.lt_of_le_of_lt f1 (by rw [Nat.pow_succ]; have := pw_pos (pr f); omega))
    have := pr_eq h
    have := fb_le h
    omega, by omega, by omega⟩
  have hs := dyad_Sign_ev hmy
  have e2 : (sv (mk (remZ f a b) (remU f a b)).1 (V (mk (remZ f a b) (remU f a b)).2.1)).sign = (remZ f a b).sign := mk_sign _ _
  rw [e2] at hs
  have eS : remS f a b = if remZ f a b = 0 then ((sgn f (wneg f a) : Int), 0) else (((encN f (remZ f a b).natAbs (remU f a b) + sgn f (decide (remZ f a b < 0)) : Nat) : Int), 0) := by
    unfold remS
    rw [if_neg (by omega), if_neg (by omega), if_neg (by omega)]
  rw [eS]
  refine ev_step ?_
  simp only [conv_Rem.j3]
  refine ev_neg (by simp) ?_
  refine Ev.bind (word_Value_ev h ha ha2) ?_; try dsimp only
  refine Ev.bind (word_Value_ev h hb hb2) ?_; try dsimp only
  refine Ev.bind (hl) ?_; try dsimp only
  by_cases c : remZ f a b = 0
  · rw [if_pos c]
    rw [c] at hs ⊢
    rw [mk_zero] at hs ⊢
    refine Ev.bind (word_Of_zero h) ?_; try dsimp only
    refine Ev.bind (hs) ?_; try dsimp only
    refine ev_pos rfl ?_
    refine Ev.bind (word_Zero_ev h (wneg f a)) ?_; try dsimp only
    exact Ev.now _
  · rw [if_neg c]
    have hw := word_of_size h (decide (remZ f a b < 0)) (q := (remZ f a b).natAbs) (E := remU f a b) f1 f2 f3 (by omega)
    rw [sv_self] at hw
    refine Ev.bind (hw) ?_; try dsimp only
    refine Ev.bind (hs) ?_; try dsimp only
    refine ev_neg (fun h => c (by rcases sgn_cases (remZ f a b) with ⟨_, k⟩ | ⟨k, _⟩ | ⟨_, k⟩ <;> omega)) ?_
    exact Ev.now _
theorem conv_Rem_ev {f : Int} (h : isF f) {a b : Nat} (ha : a < 2 * sg f) (hb : b < 2 * sg f) : Ev (fun k => conv_Rem.f k f (a : Int) (b : Int)) ((remS f a b).1, (remS f a b).2, 0) := by
  have hm : isM 1 := ⟨by omega, by omega⟩
  have ca := cls_b h a
  have cb := cls_b h b
  unfold conv_Rem.f
  refine Ev.bind (conv_open_good h hm ha) ?_; try dsimp only
  refine ev_neg (by simp) ?_
  refine Ev.bind (conv_open_good h hm hb) ?_; try dsimp only
  refine ev_neg (by simp) ?_
  have r5 : cls f a = 5 ∨ cls f b = 5 → Ev (fun k => conv_Rem.j1 k f (a : Int) (b : Int) (cls f a) (wneg f a) (cls f b) true) ((remS f a b).1, (remS f a b).2, 0) := by
    intro c
    have eS : remS f a b = ((nanW f : Int), 0) := by unfold remS; rw [if_pos c]
    rw [eS]
    refine ev_step ?_
    simp only [conv_Rem.j1]
    refine ev_pos trivial ?_
    refine Ev.bind (word_None_ev h) ?_; try dsimp only
    exact Ev.now _
  by_cases c5 : cls f a = 5
  · exact ev_pos c5 (r5 (.inl c5))
  refine ev_neg c5 ?_
  by_cases d5 : cls f b = 5
  · have := r5 (.inr d5)
    rw [decide_eq_true d5]; exact this
  rw [decide_eq_false d5]
  refine ev_step ?_
  simp only [conv_Rem.j1]
  refine ev_neg (by simp) ?_
  have r4 : cls f a = 4 ∨ cls f b = 1 → Ev (fun k => conv_Rem.j2 k f (a : Int) (b : Int) (cls f a) (wneg f a) (cls f b) true) ((remS f a b).1, (remS f a b).2, 0) := by
    intro c
    have eS : remS f a b = ((nanW f : Int), 1) := by unfold remS; rw [if_neg (by omega), if_pos c]
    rw [eS]
    refine ev_step ?_
    simp only [conv_Rem.j2]
    refine ev_pos trivial ?_
    refine Ev.bind (word_None_ev h) ?_; try dsimp only
    exact Ev.now _
  by_cases c4 : cls f a = 4
  · exact ev_pos c4 (r4 (.inl c4))
  refine ev_neg c4 ?_
  by_cases d1 : cls f b = 1
  · rw [decide_eq_true d1]; exact r4 (.inr d1)
  rw [decide_eq_false d1]
  refine ev_step ?_
  simp only [conv_Rem.j2]
  refine ev_neg (by simp) ?_
  have r3 : cls f b = 4 ∨ cls f a = 1 → Ev (fun k => conv_Rem.j3 k f (a : Int) (b : Int) (wneg f a) true) ((remS f a b).1, (remS f a b).2, 0) := by
    intro c
    have eS : remS f a b = ((a : Int), 0) := by unfold remS; rw [if_neg (by omega), if_neg (by omega), if_pos c]
    rw [eS]
    refine ev_step ?_
    simp only [conv_Rem.j3]
    exact ev_pos trivial (Ev.now _)
  by_cases d4 : cls f b = 4
  · exact ev_pos d4 (r3 (.inl d4))
  refine ev_neg d4 ?_
  by_cases c1 : cls f a = 1
  · rw [decide_eq_true c1]; exact r3 (.inr c1)
  rw [decide_eq_false c1]
  exact Rem_j3 h ha hb (by omega) d1 (by omega) c1
/-! ### the reference -/
/-! ### what is known -/
theorem known_ev : Ev (fun k => cutplanelaw06_known.f k) true := by
  have f1 : isF 1 := .inl rfl
  have f2 : isF 2 := .inr rfl
  have m4 : isM 4 := ⟨by omega, by omega⟩
  have h1 := conv_To_ev f2 f1 m4 (w := 4607182419068452864) (by decide)
  have e1 : toS 2 1 4 4607182419068452864 = (1065353217, 16) := by decide +kernel
  rw [e1] at h1
  have h2 := conv_Rem_ev f2 (a := 4617315517961601024) (b := 4613937818241073152) (by decide) (by decide)
  have e2 : remS 2 4617315517961601024 4613937818241073152 = (13830554455654793216, 0) := by decide +kernel
  rw [e2] at h2
  unfold cutplanelaw06_known.f
  refine Ev.bind (h1) ?_; try dsimp only
  refine Ev.bind (h2) ?_; try dsimp only
  refine ev_pos rfl (ev_pos rfl (ev_pos rfl (ev_pos rfl (ev_pos rfl ?_))))
  exact Ev.now _
end Go.Proofs.YtclegbgmhimenaaDoor.Eng.K

/- ConvFormats and ConvRemainders: for every input they answer true. -/
set_option linter.unusedVariables false
set_option linter.unusedSimpArgs false
namespace Go.Proofs.YtclegbgmhimenaaDoor.Eng.K
open Go.RowKit

theorem known_then : Ev (fun k => (cutplanelaw06_known.f k).bind fun t => some t) true := Ev.bind known_ev (Ev.now _)
theorem u64_nat {n : Int} (h : IntKind.u64.min ≤ n ∧ n ≤ IntKind.u64.max) : ∃ w : Nat, n = (w : Int) ∧ w < 18446744073709551616 := by
  simp [IntKind.min, IntKind.max, IntKind.signed, IntKind.bits] at h
  exact ⟨n.toNat, by omega, by omega⟩
end Go.Proofs.YtclegbgmhimenaaDoor.Eng.K

/- Words times powers of two, and their parts, both ways. -/
set_option linter.unusedVariables false
set_option linter.unusedSimpArgs false
namespace Go.Proofs.YtclegbgmhimenaaDoor.Eng.K
open Go.RowKit

/-! ### parts -/
theorem rFinite_eq {f : Int} (h : isF f) (w : Nat) : cutplaneref03_Finite.f f (w : Int) = some (decide (cls f w < 4)) := by
  have hb := cls_b h w
  unfold cutplaneref03_Finite.f
  rw [rClass_eq h w, Option.bind_some]
  by_cases c : cls f w = 4
  · rw [if_neg (fun h => h c)]
    rw [decide_eq_false (by omega)]
  · rw [if_pos c]
    congr 1
    exact decide_eq_decide.2 (by omega)
/-! ### the law -/
end Go.Proofs.YtclegbgmhimenaaDoor.Eng.K

/- Words as whole numbers, as int64, and back. -/
set_option linter.unusedVariables false
set_option linter.unusedSimpArgs false
namespace Go.Proofs.YtclegbgmhimenaaDoor.Eng.K
open Go.RowKit

theorem unit_lw (f : Int) {n : Nat} (h : n ≠ 0) (e : Int) : unit f (n / 2 ^ lw n) (e + (lw n : Nat)) = unit f n e := by
  have := top_lw h
  unfold unit
  congr 1; omega
theorem lw_mul {n : Nat} (h : n ≠ 0) : n / 2 ^ lw n * 2 ^ lw n = n := by
  obtain ⟨q, hq⟩ := lw_is h
  refine Nat.div_mul_cancel ⟨2 * q + 1, hq⟩
theorem encN_at {f : Int} {n : Nat} (h : n ≠ 0) {e : Int} (hu : unit f n e ≤ e) : encN f n e = (unit f n e - lo f).toNat * 2 ^ fb f + n * 2 ^ (e - unit f n e).toNat := by
  unfold encN enc
  rw [unit_lw f h]
  congr 1
  have e1 : (e + (lw n : Nat) - unit f n e).toNat = lw n + (e - unit f n e).toNat := by omega
  rw [e1, Nat.pow_add, ← Nat.mul_assoc, lw_mul h]
theorem wmag_bl_eq {f : Int} (h : isF f) {w : Nat} (c : wexpo f w ≠ 0) : bl (wmag f w) = pr f := by
  have h1 := wfrac_lt f w
  have h2 := pr_eq h
  have h3 : wmag f w = 2 ^ fb f + wfrac f w := by unfold wmag; rw [if_neg c]
  have hp := pw_pos (fb f)
  have h4 : 2 ^ (fb f + 1) = 2 ^ fb f * 2 := Nat.pow_succ ..
  have h5 : bl (wmag f w) ≤ fb f + 1 := bl_le_of_lt (by omega)
  have h6 : 2 ^ fb f ≤ wmag f w := by omega
  have h7 := bl_mono h6
  have h8 := bl_up (v := 1) (by omega) (fb f)
  rw [Nat.one_mul, show bl 1 = 1 by decide] at h8
  omega
theorem enc_word {f : Int} (h : isF f) {w : Nat} (c1 : cls f w ≠ 1) (c4 : cls f w < 4) : encN f (wmag f w) (wex f w) = w % sg f := by
  have hn := cls_num h c1 c4
  have h2 := pr_eq h
  have hx := wexpo_le h w
  have hu : unit f (wmag f w) (wex f w) = wex f w := by
    unfold unit
    by_cases c : wexpo f w = 0
    · have h3 : wmag f w = wfrac f w := by unfold wmag; rw [if_pos c]
      have h4 : bl (wmag f w) ≤ fb f := bl_le_of_lt (by rw [h3]; exact wfrac_lt f w)
      have h5 : wex f w = lo f := by unfold wex; rw [if_pos c]; omega
      omega
    · have h4 := wmag_bl_eq h c
      have h5 : wex f w = (wexpo f w : Int) - 1 + lo f := by unfold wex; rw [if_neg c]
      omega
  rw [encN_at hn (by omega), hu, Int.sub_self, w_parts f w]
  show _ + wmag f w * 2 ^ 0 = _
  rw [Nat.pow_zero, Nat.mul_one]
  unfold wmag wex
  by_cases c : wexpo f w = 0
  · rw [if_pos c, if_pos c, c, Int.zero_add, Int.sub_self]
    simp
  · rw [if_neg c, if_neg c, show ((wexpo f w : Int) - 1 + lo f - lo f).toNat = wexpo f w - 1 by omega]
    obtain ⟨q, hq⟩ : ∃ q, wexpo f w = q + 1 := ⟨wexpo f w - 1, by omega⟩
    rw [hq, Nat.add_mul, Nat.one_mul, Nat.add_sub_cancel]; omega
theorem w_sign {f : Int} (h : isF f) {w : Nat} (hw : w < 2 * sg f) : w % sg f + sgn f (wneg f w) = w := by
  unfold sgn wneg
  by_cases c : sg f ≤ w
  · rw [if_pos (decide_eq_true c), Nat.mod_eq_sub_mod c, Nat.mod_eq_of_lt (by omega)]; omega
  · rw [if_neg (by simpa using c), Nat.mod_eq_of_lt (by omega)]; omega
/-! ### int64 -/
/-! ### the calls -/
def wz (f : Int) (w : Nat) : Int := sv (wneg f w) (wmag f w)
theorem wz_bl {f : Int} (h : isF f) (w : Nat) : bl (wz f w).natAbs ≤ 64 := by
  have h1 := wmag_bl h w
  have h3 := pr_eq h
  have h4 := fb_le h
  unfold wz
  rw [sv_abs]; omega
/-! ### Integral -/
theorem sv_mod {f : Int} (h : isF f) {x : Nat} (hx : x < sg f) (s : Bool) : (x + sgn f s) % sg f = x := by
  unfold sgn
  cases s
  · rw [if_neg (by simp), Nat.add_zero, Nat.mod_eq_of_lt hx]
  · rw [if_pos rfl, Nat.add_mod_right, Nat.mod_eq_of_lt hx]
theorem encN_lt {f : Int} (h : isF f) {q : Nat} {E : Int} (hq : q ≤ 2 ^ pr f) (hE : lo f ≤ E) (hw : (bl q : Int) + E ≤ wd f) (h0 : q ≠ 0) : encN f q E < sg f := by
  have hpr := pr_eq h
  have h2 := (odd_bl h0 hq).resolve_right (by omega)
  have h3 := top_lw h0
  have hlt := (enc_lt h (n := q / 2 ^ lw q) (e := E + (lw q : Nat)) h2 (by omega) (by omega)).1
  have hil := inf_lt h
  have hp := pw_pos (fb f)
  unfold encN
  omega
/-! ### FromInt -/
theorem opens_none (f m : Int) : Ev (fun k => cutplanelaw06_opens.f k f m []) (fmE f m) := by
  unfold cutplanelaw06_opens.f fmE
  refine ev_bind (rIs_eq f) ?_; try dsimp only
  by_cases h : isF f
  · rw [decide_eq_true h, if_pos h]
    refine ev_neg (by simp) ?_
    refine ev_bind (rIsM_eq m) ?_; try dsimp only
    by_cases hm : isM m
    · rw [decide_eq_true hm, if_pos hm]
      refine ev_neg (by simp) (ev_step ?_)
      simp only [cutplanelaw06_opens.l0]
      exact ev_neg (by simp) (Ev.now _)
    · rw [decide_eq_false hm, if_neg hm]
      exact ev_pos (by simp) (Ev.now _)
  · rw [decide_eq_false h, if_neg h]
    exact ev_pos (by simp) (Ev.now _)
end Go.Proofs.YtclegbgmhimenaaDoor.Eng.K

/- Words of sizes, and back. -/
set_option linter.unusedVariables false
set_option linter.unusedSimpArgs false
namespace Go.Proofs.YtclegbgmhimenaaDoor.Eng.K
open Go.RowKit

/-- What a made word is. -/
structure Dec (f : Int) (s : Bool) (q : Nat) (E : Int) (w : Nat) : Prop where
  lt : w < 2 * sg f
  neg : wneg f w = s
  c1 : cls f w ≠ 1
  c4 : cls f w < 4
  val : mk (wz f w) (wex f w) = mk (sv s q) E
theorem dec {f : Int} (h : isF f) (s : Bool) {q : Nat} {E : Int} (hq : q ≤ 2 ^ pr f) (hE : lo f ≤ E) (hw : (bl q : Int) + E ≤ wd f) (h0 : q ≠ 0) : Dec f s q E (encN f q E + sgn f s) := by
  have hlt := encN_lt h hq hE hw h0
  have hpr := pr_eq h
  have hfb := fb_le h
  have h2 := (odd_bl h0 hq).resolve_right (by omega)
  have h3 := top_lw h0
  have hel := enc_lt h (n := q / 2 ^ lw q) (e := E + (lw q : Nat)) h2 (by omega) (by omega)
  have hpl := part_lt (f := f) (n := q / 2 ^ lw q) (e := E + (lw q : Nat)) h2 (by omega)
  have hul := unit_le (f := f) (n := q / 2 ^ lw q) (e := E + (lw q : Nat)) h2 (by omega)
  have huge := unit_ge f (q / 2 ^ lw q) (E + (lw q : Nat))
  have hund : unit f (q / 2 ^ lw q) (E + (lw q : Nat)) = max (E + (lw q : Nat) + (bl (q / 2 ^ lw q) : Nat) - (pr f : Nat)) (lo f) := rfl
  have hen : encN f q E = (unit f (q / 2 ^ lw q) (E + (lw q : Nat)) - lo f).toNat * 2 ^ fb f + q / 2 ^ lw q * 2 ^ (E + (lw q : Nat) - unit f (q / 2 ^ lw q) (E + (lw q : Nat))).toNat := rfl
  have hq'0 : q / 2 ^ lw q ≠ 0 := by
    intro h4; rw [h4, bl_zero] at h3
    have := lw_lt h0
    omega
  have hXb := bl_up hq'0 (E + (lw q : Nat) - unit f (q / 2 ^ lw q) (E + (lw q : Nat))).toNat
  have hXv : mk (sv s (q / 2 ^ lw q * 2 ^ (E + (lw q : Nat) - unit f (q / 2 ^ lw q) (E + (lw q : Nat))).toNat)) (unit f (q / 2 ^ lw q) (E + (lw q : Nat))) = mk (sv s q) E := by
    rw [← sv_pow, mk_up]
    have e1 : mk (sv s q) E = mk (sv s (q / 2 ^ lw q * 2 ^ lw q)) E := by rw [lw_mul h0]
    rw [e1, ← sv_pow, mk_up]
    congr 1; omega
  have hX0 : q / 2 ^ lw q * 2 ^ (E + (lw q : Nat) - unit f (q / 2 ^ lw q) (E + (lw q : Nat))).toNat ≠ 0 := by
    have := Nat.mul_pos (Nat.pos_of_ne_zero hq'0) (pw_pos (E + (lw q : Nat) - unit f (q / 2 ^ lw q) (E + (lw q : Nat))).toNat)
    omega
  generalize hw0 : encN f q E = x at *
  generalize hX : q / 2 ^ lw q * 2 ^ (E + (lw q : Nat) - unit f (q / 2 ^ lw q) (E + (lw q : Nat))).toNat = X at *
  generalize hU : unit f (q / 2 ^ lw q) (E + (lw q : Nat)) = U at *
  have hsp := sg_pos h
  have hmod : (x + sgn f s) % sg f = x := sv_mod h hlt s
  have hng : wneg f (x + sgn f s) = s := by
    unfold wneg sgn
    cases s
    · rw [if_neg (by simp)]; exact decide_eq_false (by omega)
    · rw [if_pos rfl]; exact decide_eq_true (by omega)
  have hltw : x + sgn f s < 2 * sg f := by unfold sgn; split <;> omega
  have hp := pw_pos (fb f)
  have hm := mo_ge h
  rw [hpr, Nat.pow_succ] at hpl
  have main : wmag f (x + sgn f s) = X ∧ wex f (x + sgn f s) = U ∧ wexpo f (x + sgn f s) < mo f := by
    unfold wmag wex wexpo wfrac
    rw [hmod]
    by_cases c : X < 2 ^ fb f
    · have hb : bl X ≤ fb f := bl_le_of_lt c
      have hu0 : (U - lo f).toNat = 0 := by omega
      have hx : x = X := by rw [hen, hu0]; omega
      have hd : x / 2 ^ fb f = 0 := Nat.div_eq_of_lt (by omega)
      rw [hd, if_pos rfl, if_pos rfl, Nat.mod_eq_of_lt (by omega)]
      refine ⟨hx, by omega, by omega⟩
    · have hx : x = ((U - lo f).toNat + 1) * 2 ^ fb f + (X - 2 ^ fb f) := by rw [hen, Nat.add_mul, Nat.one_mul]; omega
      have hd : x / 2 ^ fb f = (U - lo f).toNat + 1 := by
        rw [hx, Nat.mul_comm, Nat.mul_add_div hp, Nat.div_eq_of_lt (by omega), Nat.add_zero]
      have hr : x % 2 ^ fb f = X - 2 ^ fb f := by
        rw [hx, Nat.mul_comm, Nat.mul_add_mod, Nat.mod_eq_of_lt (by omega)]
      rw [hd, hr, if_neg (by omega), if_neg (by omega)]
      refine ⟨by omega, by omega, by omega⟩
  obtain ⟨m1, m2, m3⟩ := main
  refine ⟨hltw, hng, ?_, ?_, ?_⟩
  · intro hc
    rw [cls_eq h] at hc
    by_cases c : wexpo f (x + sgn f s) = 0
    · rw [if_pos c] at hc
      have : wmag f (x + sgn f s) = wfrac f (x + sgn f s) := by unfold wmag; rw [if_pos c]
      by_cases c2 : wfrac f (x + sgn f s) = 0
      · omega
      · rw [if_neg c2] at hc; omega
    · rw [if_neg c, if_pos m3] at hc; omega
  · rw [cls_eq h]
    by_cases c : wexpo f (x + sgn f s) = 0
    · rw [if_pos c]; split <;> omega
    · rw [if_neg c, if_pos m3]; omega
  · unfold wz
    rw [m1, m2, hng]
    exact hXv
/-! ### what rounding comes to depends on the number alone -/
theorem R_of_mk {m : Int} {s : Bool} {n n' : Nat} {e e' : Int} (hn : n ≠ 0) (hn' : n' ≠ 0) (hv : mk (sv s n) e = mk (sv s n') e') (E : Int) : R m s n e E = R m s n' e' E ∧ exR n e E = exR n' e' E := by
  obtain ⟨a1, a2, a3⟩ := w_sv (s := s) hn
  obtain ⟨b1, b2, b3⟩ := w_sv (s := s) hn'
  obtain ⟨j, j1, j2, _, _⟩ := mz_abs a3 e
  obtain ⟨i, i1, i2, _, _⟩ := mz_abs b3 e'
  rw [a2] at j1
  rw [b2] at i1
  rw [j1, i1, R_up, R_up, exR_up, exR_up, ← j2, ← i2, hv]
  exact ⟨rfl, rfl⟩
theorem top_of_mk {s : Bool} {n n' : Nat} {e e' : Int} (hn : n ≠ 0) (hn' : n' ≠ 0) (hv : mk (sv s n) e = mk (sv s n') e') : e + (bl n : Nat) = e' + (bl n' : Nat) := by
  obtain ⟨a1, a2, a3⟩ := w_sv (s := s) hn
  obtain ⟨b1, b2, b3⟩ := w_sv (s := s) hn'
  have h1 := top_mz (sv s n) e
  have h2 := top_mz (sv s n') e'
  have e1 : top (mz (sv s n) e) (me (sv s n) e) = top (mz (sv s n') e') (me (sv s n') e') := by unfold mz me; rw [hv]
  rw [h1, h2] at e1
  unfold top at e1
  rw [if_neg a3, if_neg b3, a2, b2] at e1
  exact e1
theorem roundS_of_mk {f m : Int} {s : Bool} {n n' : Nat} {e e' : Int} (hn : n ≠ 0) (hn' : n' ≠ 0) (hv : mk (sv s n) e = mk (sv s n') e') : roundS f m s n e = roundS f m s n' e' := by
  have ht := top_of_mk hn hn' hv
  have hu : unitR f n e = unitR f n' e' := by unfold unitR; rw [ht]
  have hr := fun E => R_of_mk (m := m) hn hn' hv E
  unfold roundS
  simp only [hu, ht, fun E => (hr E).1, fun E => (hr E).2]
theorem encN_of_mk {f : Int} {s : Bool} {n n' : Nat} {e e' : Int} (hn : n ≠ 0) (hn' : n' ≠ 0) (hv : mk (sv s n) e = mk (sv s n') e') : encN f n e = encN f n' e' := by
  rw [mk_sv s hn, mk_sv s hn'] at hv
  simp only [Prod.mk.injEq] at hv
  unfold encN
  rw [D_inj hv.2.1, hv.2.2]
/-- What fits is rounded to itself. -/
theorem roundS_fits {f m : Int} (h : isF f) (s : Bool) {n : Nat} {e : Int} (hn : n ≠ 0) (hb : bl (n / 2 ^ lw n) ≤ pr f) (hl : lo f ≤ e + (lw n : Nat)) (ht : e + (bl n : Nat) ≤ wd f) : roundS f m s n e = (((encN f n e + sgn f s : Nat) : Int), 0) := by
  have h3 := top_lw hn
  have hu : unitR f n e ≤ e + (lw n : Nat) := by unfold unitR; omega
  have hx : exR n e (unitR f n e) = true := by
    unfold exR
    refine decide_eq_true ?_
    have := (lw_is hn).mod (k := (unitR f n e - e).toNat)
    exact this.2 (by omega)
  obtain ⟨a1, a2, a3⟩ := w_sv (s := s) hn
  have hT := TK_exact (m := m) (z := sv s n) (e := e) (E := unitR f n e) (by rw [a2]; exact hx)
  have hTK : TK m (sv s n) e (unitR f n e) = sv s (R m s n e (unitR f n e)) := by unfold TK; rw [a1, a2]
  rw [hTK] at hT
  have hq0 : R m s n e (unitR f n e) ≠ 0 := by
    intro h0
    rw [h0, sv_zero] at hT
    have h1 := mz_ne a3 e
    unfold mz at h1
    rw [← hT, mk_zero] at h1
    exact h1 rfl
  have htop := top_of_mk hq0 hn hT
  have henc := encN_of_mk (f := f) hq0 hn hT
  unfold roundS
  simp only [hx]
  rw [if_neg (by omega), if_neg hq0, henc]
  rfl
/-- A word that fits, made of any size with its value. -/
theorem dec_fits {f : Int} (h : isF f) (s : Bool) {n : Nat} {e : Int} (hn : n ≠ 0) (hb : bl (n / 2 ^ lw n) ≤ pr f) (hl : lo f ≤ e + (lw n : Nat)) (ht : e + (bl n : Nat) ≤ wd f) : Dec f s n e (encN f n e + sgn f s) := by
  have h3 := top_lw hn
  have hq'0 : n / 2 ^ lw n ≠ 0 := by
    intro h4; rw [h4, bl_zero] at h3
    have := lw_lt hn
    omega
  have hv : mk (sv s (n / 2 ^ lw n)) (e + (lw n : Nat)) = mk (sv s n) e := by
    have e1 : mk (sv s n) e = mk (sv s (n / 2 ^ lw n * 2 ^ lw n)) e := by rw [lw_mul hn]
    rw [e1, ← sv_pow, mk_up]
  have hq : n / 2 ^ lw n ≤ 2 ^ pr f := by
    have h1 := lt_bl (n / 2 ^ lw n)
    have h2 : 2 ^ bl (n / 2 ^ lw n) ≤ 2 ^ pr f := Nat.pow_le_pow_right (by omega) hb
    omega
  have hd := dec h s (q := n / 2 ^ lw n) (E := e + (lw n : Nat)) hq hl (by omega) hq'0
  rw [encN_of_mk hq'0 hn hv] at hd
  exact ⟨hd.lt, hd.neg, hd.c1, hd.c4, by rw [hd.val, hv]⟩
theorem dec_mag {f : Int} {s : Bool} {q : Nat} {E : Int} {w : Nat} (h : isF f) (d : Dec f s q E w) : wmag f w ≠ 0 := cls_num h d.c1 d.c4
theorem dec_wv {f : Int} {s : Bool} {q : Nat} {E : Int} {w : Nat} (d : Dec f s q E w) : mk (sv s (wmag f w)) (wex f w) = mk (sv s q) E := by
  have := d.val
  unfold wz at this
  rw [d.neg] at this
  exact this
/-- A word's own size fits. -/
theorem word_fits {f : Int} (h : isF f) {w : Nat} (c1 : cls f w ≠ 1) (c4 : cls f w < 4) : bl (wmag f w / 2 ^ lw (wmag f w)) ≤ pr f ∧ lo f ≤ wex f w + (lw (wmag f w) : Nat) ∧ wex f w + (bl (wmag f w) : Nat) ≤ wd f := by
  have h1 := wmag_bl h w
  have h2 := fin_top h c4
  have h3 : bl (wmag f w / 2 ^ lw (wmag f w)) ≤ bl (wmag f w) := bl_mono (Nat.div_le_self _ _)
  have h4 : lo f ≤ wex f w := by unfold wex; split <;> omega
  exact ⟨by omega, by omega, h2⟩
/-! ### ConvInts -/
end Go.Proofs.YtclegbgmhimenaaDoor.Eng.K

/- Whole numbers that were taken for words: how far they are. -/
set_option linter.unusedVariables false
set_option linter.unusedSimpArgs false
namespace Go.Proofs.YtclegbgmhimenaaDoor.Eng.K
open Go.RowKit

theorem nought_z {f : Int} (h : isF f) {w : Nat} (c : cls f w = 1) : wmag f w = 0 := by
  rw [cls_eq h] at c
  unfold wmag
  by_cases c2 : wexpo f w = 0
  · rw [if_pos c2] at c ⊢
    by_cases c3 : wfrac f w = 0
    · exact c3
    · rw [if_neg c3] at c; omega
  · rw [if_neg c2] at c
    split at c
    · omega
    · split at c <;> omega
end Go.Proofs.YtclegbgmhimenaaDoor.Eng.K

/- Words there and back: other formats, other scales, remainders. -/
set_option linter.unusedVariables false
set_option linter.unusedSimpArgs false
namespace Go.Proofs.YtclegbgmhimenaaDoor.Eng.K
open Go.RowKit

def canon (f : Int) (w : Nat) : Nat := if cls f w = 5 then nanW f else w
theorem rCanon_eq {f : Int} (h : isF f) (w : Nat) : cutplaneref03_Canon.f f (w : Int) = some (canon f w : Int) := by
  unfold cutplaneref03_Canon.f canon
  rw [rClass_eq h w, Option.bind_some]
  by_cases c : cls f w = 5
  · rw [if_pos c, if_pos c, rNone_eq h]; rfl
  · rw [if_neg c, if_neg c]
/-! ### made words' classes -/
theorem nan_cls {f : Int} (h : isF f) : cls f (nanW f) = 5 ∧ nanW f < 2 * sg f := by rcases h with rfl | rfl <;> decide +kernel
theorem inf_cls {f : Int} (h : isF f) (s : Bool) : cls f (mo f * 2 ^ fb f + sgn f s) = 4 ∧ mo f * 2 ^ fb f + sgn f s < 2 * sg f ∧ wneg f (mo f * 2 ^ fb f + sgn f s) = s := by
  rcases h with rfl | rfl <;> cases s <;> decide +kernel
theorem zero_cls {f : Int} (h : isF f) (s : Bool) : cls f (sgn f s) = 1 ∧ sgn f s < 2 * sg f ∧ wneg f (sgn f s) = s := by
  rcases h with rfl | rfl <;> cases s <;> decide +kernel
theorem inf_word {f : Int} (h : isF f) {w : Nat} (hw : w < 2 * sg f) (hc : cls f w = 4) : w = mo f * 2 ^ fb f + sgn f (wneg f w) := by
  have h1 : w % sg f = mo f * 2 ^ fb f := by
    unfold cls at hc
    split at hc
    · omega
    · split at hc
      · omega
      · split at hc
        · omega
        · split at hc
          · assumption
          · omega
  have h2 := w_sign h hw
  rw [h1] at h2
  exact h2.symm
/-! ### ConvThere -/
theorem There_law (m n : Int) (w : Nat) : Ev (fun k => cutplanelaw06_ConvThere.f k m n (w : Int)) true := by
  have f1 : isF 1 := .inl rfl
  have f2 : isF 2 := .inr rfl
  unfold cutplanelaw06_ConvThere.f
  refine Ev.bind (opens_none 1 m) ?_; try dsimp only
  by_cases c : fmE 1 m = 0
  · refine ev_neg (fun h => h c) ?_
    refine Ev.bind (opens_none 1 n) ?_; try dsimp only
    by_cases c' : fmE 1 n = 0
    · refine ev_neg (fun h => h c') ?_
      obtain ⟨_, hm⟩ := fmE_zero.1 c
      obtain ⟨_, hn⟩ := fmE_zero.1 c'
      have etm : Int.tmod (w : Int) 4294967296 = ((w % 4294967296 : Nat) : Int) := tmod_n w 4294967296
      rw [etm]
      have hx : w % 4294967296 < 2 * sg 1 := by
        have : 2 * sg 1 = 4294967296 := by decide
        omega
      generalize w % 4294967296 = x at *
      have hcb := cls_b f1 x
      have t1 := conv_To_ev f1 f2 hm hx
      by_cases c5 : cls 1 x = 5
      · have e1 : toS 1 2 m x = ((nanW 2 : Int), 0) := by unfold toS; rw [if_pos c5]
        rw [e1] at t1
        have hnan := nan_cls f2
        have t2 := conv_To_ev f2 f1 hn hnan.2
        have e2 : toS 2 1 n (nanW 2) = ((nanW 1 : Int), 0) := by unfold toS; rw [if_pos hnan.1]
        rw [e2] at t2
        refine Ev.bind (t1) ?_; try dsimp only
        refine Ev.bind (t2) ?_; try dsimp only
        refine ev_neg (fun h => h rfl) (ev_neg (fun h => h rfl) (ev_neg (fun h => h rfl) (ev_neg (fun h => h rfl) ?_)))
        refine ev_bind (rCanon_eq f1 x) ?_; try dsimp only
        refine ev_neg (fun h => h (by unfold canon; rw [if_pos c5])) ?_
        refine ev_bind (rFinite_eq f1 x) ?_; try dsimp only
        rw [decide_eq_false (by omega : ¬ cls 1 x < 4)]
        exact ev_pos (by simp) known_then
      have hcan : canon 1 x = x := by unfold canon; rw [if_neg c5]
      by_cases c4 : cls 1 x = 4
      · have e1 : toS 1 2 m x = (((mo 2 * 2 ^ fb 2 + sgn 2 (wneg 1 x) : Nat) : Int), 0) := by unfold toS; rw [if_neg c5, if_pos c4]
        rw [e1] at t1
        have hinf := inf_cls f2 (wneg 1 x)
        have t2 := conv_To_ev f2 f1 hn hinf.2.1
        have e2 : toS 2 1 n (mo 2 * 2 ^ fb 2 + sgn 2 (wneg 1 x)) = ((x : Int), 0) := by
          unfold toS; rw [if_neg (by omega), if_pos hinf.1, hinf.2.2, ← inf_word f1 hx c4]
        rw [e2] at t2
        refine Ev.bind (t1) ?_; try dsimp only
        refine Ev.bind (t2) ?_; try dsimp only
        refine ev_neg (fun h => h rfl) (ev_neg (fun h => h rfl) (ev_neg (fun h => h rfl) (ev_neg (fun h => h rfl) ?_)))
        refine ev_bind (rCanon_eq f1 x) ?_; try dsimp only
        refine ev_neg (fun h => h (by rw [hcan])) ?_
        refine ev_bind (rFinite_eq f1 x) ?_; try dsimp only
        rw [decide_eq_false (by omega : ¬ cls 1 x < 4)]
        exact ev_pos (by simp) known_then
      by_cases c1 : cls 1 x = 1
      · have e1 : toS 1 2 m x = ((sgn 2 (wneg 1 x) : Int), 0) := by unfold toS; rw [if_neg c5, if_neg c4, if_pos c1]
        rw [e1] at t1
        have hzc := zero_cls f2 (wneg 1 x)
        have t2 := conv_To_ev f2 f1 hn hzc.2.1
        have e2 : toS 2 1 n (sgn 2 (wneg 1 x)) = ((x : Int), 0) := by
          unfold toS; rw [if_neg (by omega), if_neg (by omega), if_pos hzc.1, hzc.2.2, ← zero_word f1 hx c1]
        rw [e2] at t2
        refine Ev.bind (t1) ?_; try dsimp only
        refine Ev.bind (t2) ?_; try dsimp only
        refine ev_neg (fun h => h rfl) (ev_neg (fun h => h rfl) (ev_neg (fun h => h rfl) (ev_neg (fun h => h rfl) ?_)))
        refine ev_bind (rCanon_eq f1 x) ?_; try dsimp only
        refine ev_neg (fun h => h (by rw [hcan])) ?_
        refine ev_bind (rFinite_eq f1 x) ?_; try dsimp only
        rw [decide_eq_true (by omega : cls 1 x < 4)]
        refine ev_neg (by simp) ?_
        refine ev_bind (rFinite_eq f2 (sgn 2 (wneg 1 x))) ?_; try dsimp only
        refine ev_pos (decide_eq_true (by omega)) ?_
        have v1 := rValue_ev f1 x
        rw [nought_z f1 c1, sv_zero] at v1
        have v2 := rValue_ev f2 (sgn 2 (wneg 1 x))
        rw [nought_z f2 hzc.1, sv_zero] at v2
        refine Ev.bind (v1) ?_; try dsimp only
        refine Ev.bind (v2) ?_; try dsimp only
        refine Ev.bind (rSame_mk 0 (wex 1 x) 0 (wex 2 (sgn 2 (wneg 1 x))) (by decide)) ?_; try dsimp only
        exact ev_pos (decide_eq_true rfl) known_then
      · have hlt4 : cls 1 x < 4 := by omega
        have hnn := cls_num f1 c1 hlt4
        obtain ⟨g1, g2, g3⟩ := word_fits f1 c1 hlt4
        have p1 : pr 1 = 24 := rfl
        have p2 : pr 2 = 53 := rfl
        have l1 : lo 1 = -149 := rfl
        have l2 : lo 2 = -1074 := rfl
        have d1 : wd 1 = 128 := rfl
        have d2 : wd 2 = 1024 := rfl
        have hr := roundS_fits (m := m) f2 (wneg 1 x) hnn (e := wex 1 x) (by omega) (by omega) (by omega)
        have hd := dec_fits f2 (wneg 1 x) hnn (e := wex 1 x) (by omega) (by omega) (by omega)
        have e1 : toS 1 2 m x = (((encN 2 (wmag 1 x) (wex 1 x) + sgn 2 (wneg 1 x) : Nat) : Int), 0) := by unfold toS; rw [if_neg c5, if_neg c4, if_neg c1, hr]
        rw [e1] at t1
        generalize encN 2 (wmag 1 x) (wex 1 x) + sgn 2 (wneg 1 x) = a at *
        have ca := hd.c1
        have cb := hd.c4
        have hcba := cls_b f2 a
        have t2 := conv_To_ev f2 f1 hn hd.lt
        have e2 : toS 2 1 n a = ((x : Int), 0) := by
          have hrr := roundS_of_mk (f := 1) (m := n) (dec_mag f2 hd) hnn (dec_wv hd)
          unfold toS
          rw [if_neg (by omega), if_neg (by omega), if_neg ca, hd.neg, hrr, roundS_fits f1 (wneg 1 x) hnn g1 g2 g3, enc_word f1 c1 hlt4, w_sign f1 hx]
        rw [e2] at t2
        refine Ev.bind (t1) ?_; try dsimp only
        refine Ev.bind (t2) ?_; try dsimp only
        refine ev_neg (fun h => h rfl) (ev_neg (fun h => h rfl) (ev_neg (fun h => h rfl) (ev_neg (fun h => h rfl) ?_)))
        refine ev_bind (rCanon_eq f1 x) ?_; try dsimp only
        refine ev_neg (fun h => h (by rw [hcan])) ?_
        refine ev_bind (rFinite_eq f1 x) ?_; try dsimp only
        rw [decide_eq_true hlt4]
        refine ev_neg (by simp) ?_
        refine ev_bind (rFinite_eq f2 a) ?_; try dsimp only
        refine ev_pos (decide_eq_true cb) ?_
        refine Ev.bind (rValue_ev f1 x) ?_; try dsimp only
        refine Ev.bind (rValue_ev f2 a) ?_; try dsimp only
        have hbx := wz_bl f1 x
        have hsm := rSame_mk (wz 1 x) (wex 1 x) (wz 2 a) (wex 2 a) (by omega)
        refine Ev.bind (hsm) ?_; try dsimp only
        exact ev_pos (decide_eq_true hd.val.symm) known_then
    · exact ev_pos c' known_then
  · exact ev_pos c known_then
theorem ConvThere (m n w : Int) (h : IntKind.u64.min ≤ w ∧ w ≤ IntKind.u64.max) : Ev (fun k => cutplanelaw06_ConvThere.f k m n w) true := by
  obtain ⟨x, rfl, hx⟩ := u64_nat h
  exact There_law m n x
/-! ### ConvBack -/
end Go.Proofs.YtclegbgmhimenaaDoor.Eng.K

