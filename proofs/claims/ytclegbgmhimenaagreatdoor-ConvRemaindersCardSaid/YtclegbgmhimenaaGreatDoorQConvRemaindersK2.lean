import Derived.Test.YtclegbgmhimenaaGreatDoorQConvRemaindersK1
set_option linter.unusedVariables false
set_option linter.unusedSimpArgs false
/- The program's words of numbers, and its named words. -/
set_option linter.unusedVariables false
set_option linter.unusedSimpArgs false
namespace Go.Proofs.YtclegbgmhimenaaGreatDoor.Eng.K
open Go.RowKit

/-- Bits of a finite number; finite numbers are below two to that. -/
def pr (f : Int) : Nat := if f = 1 then 24 else 53
def wd (f : Int) : Int := if f = 1 then 128 else 1024
def sgn (f : Int) (s : Bool) : Nat := if s = true then sg f else 0
/-- Where a word's unit lies; the word of a size, without its sign. -/
def unit (f : Int) (n : Nat) (e : Int) : Int := max (e + (bl n : Nat) - (pr f : Nat)) (lo f)
def enc (f : Int) (n : Nat) (e : Int) : Nat := (unit f n e - lo f).toNat * 2 ^ fb f + n * 2 ^ (e - unit f n e).toNat
theorem pr_eq {f : Int} (h : isF f) : pr f = fb f + 1 := by rcases h with rfl | rfl <;> rfl
theorem wd_eq {f : Int} (h : isF f) : wd f = ((mo f / 2 : Nat) : Int) + 1 := by rcases h with rfl | rfl <;> rfl
theorem lo_b {f : Int} (h : isF f) : -1074 ≤ lo f ∧ lo f ≤ -149 := by rcases h with rfl | rfl <;> decide
theorem wd_b {f : Int} (h : isF f) : 128 ≤ wd f ∧ wd f ≤ 1024 := by rcases h with rfl | rfl <;> decide
theorem fits_room {f : Int} (h : isF f) : wd f - (pr f : Nat) - lo f = ((mo f - 2 : Nat) : Int) := by rcases h with rfl | rfl <;> rfl
theorem mo_ge {f : Int} (h : isF f) : 255 ≤ mo f := by rcases h with rfl | rfl <;> decide
theorem unit_ge (f : Int) (n : Nat) (e : Int) : lo f ≤ unit f n e := by unfold unit; omega
theorem part_lt {f : Int} {n : Nat} {e : Int} (hn : bl n ≤ pr f) (he : lo f ≤ e) : n * 2 ^ (e - unit f n e).toNat < 2 ^ pr f := by
  have h1 := lt_bl n
  have h2 : n * 2 ^ (e - unit f n e).toNat < 2 ^ bl n * 2 ^ (e - unit f n e).toNat := Nat.mul_lt_mul_of_pos_right h1 (pw_pos _)
  rw [← Nat.pow_add] at h2
  exact Nat.lt_of_lt_of_le h2 (Nat.pow_le_pow_right (by omega) (by unfold unit; omega))
theorem unit_le {f : Int} {n : Nat} {e : Int} (hn : bl n ≤ pr f) (he : lo f ≤ e) : unit f n e ≤ e := by unfold unit; omega
theorem enc_lt {f : Int} (h : isF f) {n : Nat} {e : Int} (hn : bl n ≤ pr f) (he : lo f ≤ e) (hw : e + (bl n : Nat) ≤ wd f) : enc f n e < mo f * 2 ^ fb f ∧ (unit f n e - lo f).toNat ≤ mo f - 2 := by
  have h1 := part_lt hn he
  have h2 := fits_room h
  have h3 := mo_ge h
  have h4 : (unit f n e - lo f).toNat ≤ mo f - 2 := by unfold unit; omega
  refine ⟨?_, h4⟩
  unfold enc
  rw [pr_eq h, Nat.pow_succ] at h1
  have h5 : (unit f n e - lo f).toNat * 2 ^ fb f ≤ (mo f - 2) * 2 ^ fb f := Nat.mul_le_mul_right _ h4
  have h6 : (mo f - 2) * 2 ^ fb f + 2 ^ fb f * 2 = mo f * 2 ^ fb f := by
    rw [Nat.mul_comm (2 ^ fb f) 2, ← Nat.add_mul]; congr 1; omega
  omega
theorem inf_lt {f : Int} (h : isF f) : mo f * 2 ^ fb f + 2 ^ fb f = sg f := by rcases h with rfl | rfl <;> decide
theorem shl_u64 {X s : Nat} (h : X * 2 ^ s < 18446744073709551616) (hs : s ≤ 64) : shl .u64 (X : Int) (s : Int) = ((X * 2 ^ s : Nat) : Int) := by
  unfold shl
  have e : min (s : Int).toNat IntKind.u64.bits = s := by
    have : IntKind.u64.bits = 64 := rfl
    omega
  rw [e, pow_cast, ← Int.natCast_mul]
  exact u64 (by omega) (by omega)
theorem or_sign {f : Int} (h : isF f) {x : Nat} (hx : x < sg f) : Go.bits .or .u64 (x : Int) (sg f : Int) = ((x + sg f : Nat) : Int) := by
  have hp := sg_pos h
  rw [or_comm64 _ _ (by omega) (by omega)]
  have h1 := or_sum 1 x (sk f) (by rw [← sg_pow h]; exact hx) (by rw [← sg_pow h]; omega)
  rw [Nat.one_mul, ← sg_pow h] at h1
  rw [h1, Nat.add_comm]
theorem or_zero64 {x : Nat} (h : x < 18446744073709551616) : Go.bits .or .u64 0 (x : Int) = (x : Int) := by
  have := or64 0 x (by omega) h
  rw [Nat.zero_or] at this
  exact this
theorem join_eq {f : Int} (h : isF f) {x : Nat} (hx : x < sg f) (s : Bool) : word_shape_join.f (fb f : Int) (mo f : Int) (sg f : Int) s 0 (x : Int) = some ((x + sgn f s : Nat) : Int) := by
  have hp := sg_pos h
  have e0 : shl .u64 (IntKind.u64.wrap 0) ((fb f : Nat) : Int) = 0 := by rcases h with rfl | rfl <;> decide
  unfold word_shape_join.f sgn
  rw [if_pos (by omega), e0, or_zero64 (by omega)]
  cases s
  · rfl
  · rw [if_pos rfl, if_pos rfl, or_sign h hx]
theorem wsubx {a b : Int} (h1 : -100000000000 ≤ a) (h2 : a ≤ 100000000000) (h3 : -100000000000 ≤ b) (h4 : b ≤ 100000000000) : wrap64 (a - b) = a - b := by unfold wrap64; omega
theorem waddx {a b : Int} (h1 : -100000000000 ≤ a) (h2 : a ≤ 100000000000) (h3 : -100000000000 ≤ b) (h4 : b ≤ 100000000000) : wrap64 (a + b) = a + b := by unfold wrap64; omega
theorem numB_small {l : List Int} (h : Nm l) (hb : V l < 18446744073709551616) : numB l = true := by
  have h1 : l.length ≤ 2 := by
    have : (D (V l)).length ≤ 2 := D_len_lt (by omega)
    rwa [h] at this
  unfold numB
  rw [may_iff.2 ⟨by omega, h⟩, decide_eq_true h1]
  rfl
theorem two_fb {f : Int} (h : isF f) : 2 ^ pr f ≤ 9007199254740992 := by rcases h with rfl | rfl <;> decide
theorem unit_wrap {f : Int} (h : isF f) {n : Nat} {e : Int} (he : lo f ≤ e) (hw : e + (bl n : Nat) ≤ wd f) (hn : bl n ≤ 100) : mx (wrap64 (wrap64 (e + ((bl n : Nat) : Int) - ((fb f : Nat) : Int)) - 1)) (lo f) = unit f n e := by
  have hl := lo_b h
  have hwb := wd_b h
  have hpr := pr_eq h
  have hfb := fb_le h
  have e1 : wrap64 (e + ((bl n : Nat) : Int) - ((fb f : Nat) : Int)) = e + ((bl n : Nat) : Int) - ((fb f : Nat) : Int) := by unfold wrap64; omega
  have e2 : wrap64 (e + ((bl n : Nat) : Int) - ((fb f : Nat) : Int) - 1) = e + ((bl n : Nat) : Int) - ((fb f : Nat) : Int) - 1 := by unfold wrap64; omega
  rw [e1, e2, mx_eq]
  unfold unit
  omega
theorem part_sm {n k : Nat} (h : n ≠ 0) (hb : n * 2 ^ k < 18446744073709551616) : k ≤ 64 := by
  rcases Nat.lt_or_ge 64 k with c | c
  · have h1 : 2 ^ 64 ≤ 2 ^ k := Nat.pow_le_pow_right (by omega) (by omega)
    have h2 : 2 ^ k ≤ n * 2 ^ k := Nat.le_mul_of_pos_left _ (by omega)
    have h3 : (2 : Nat) ^ 64 = 18446744073709551616 := by decide
    omega
  · exact c
theorem word_Of_ev {f : Int} (h : isF f) {s : Bool} {l : List Int} {e : Int} (hd : My s l e) (h0 : l ≠ []) (hn : bl (V l) ≤ pr f) (he : lo f ≤ e) (hw : e + (bl (V l) : Nat) ≤ wd f) :
    Ev (fun k => word_Of.f k f s l e) (((enc f (V l) e + sgn f s : Nat) : Int), 0) := by
  have hV : V l ≠ 0 := fun c => h0 ((V_eq_zero hd.dy.nm).1 c)
  have hl := lo_b h
  have hwb := wd_b h
  have hpr := pr_eq h
  have hfb := fb_le h
  have h2 := two_fb h
  have hbig : V l < 2 ^ pr f := Nat.lt_of_lt_of_le (lt_bl _) (Nat.pow_le_pow_right (by omega) hn)
  have hnum := nat_Num_ev hd.dy.nm.dg (by have := hd.len; omega)
  rw [numB_small hd.dy.nm (by omega), if_pos rfl] at hnum
  obtain ⟨e1, e2⟩ := enc_lt h hn he hw
  have hil := inf_lt h
  have hsp := sg_pos h
  have hplt := part_lt hn he
  have hu := unit_le hn he
  have hul := unit_ge f (V l) e
  have hpf := pw_pos (fb f)
  have hub : unit f (V l) e ≤ 1100 := by omega
  have hA : (unit f (V l) e - lo f).toNat * 2 ^ fb f < 18446744073709551616 := by unfold enc at e1; omega
  have hB : V l * 2 ^ (e - unit f (V l) e).toNat < 18446744073709551616 := by omega
  have hsm : (e - unit f (V l) e).toNat ≤ 64 := by
    have := part_sm (n := V l) (k := (e - unit f (V l) e).toNat) (by omega) hB
    exact this
  have hE : enc f (V l) e < 18446744073709551616 := by omega
  have t7 : IntKind.u64.wrap (((unit f (V l) e - lo f).toNat * 2 ^ fb f + V l * 2 ^ (e - unit f (V l) e).toNat : Nat) : Int) = ((enc f (V l) e : Nat) : Int) := u64 (by omega) (by unfold enc at hE; omega)
  have t8 := u64 (n := (((unit f (V l) e - lo f).toNat : Nat) : Int)) (by omega) (by omega)
  have t9 := shl_u64 hA (by omega)
  have t10 := shl_u64 hB hsm
  have hj := join_eq h (x := enc f (V l) e) (by omega) s
  have hVi : ¬ ((V l : Nat) : Int) = 0 := by omega
  have c1 : ¬ ((bl (V l) : Nat) : Int) > ((fb f : Nat) : Int) + 1 := by omega
  have c2 : ¬ e < lo f := by omega
  have c3 : ¬ e + ((bl (V l) : Nat) : Int) > wd f := by omega
  have c4 : (0 : Int) ≤ (((e - unit f (V l) e).toNat : Nat) : Int) := by omega
  have c5 : (0 : Int) ≤ ((fb f : Nat) : Int) := by omega
  have hm := mo_le h
  have hL := len64_ev (x := ((V l : Nat) : Int)) ⟨by omega, by omega⟩
  rw [Int.toNat_natCast] at hL
  have t1 : wrap64 (e + ((bl (V l) : Nat) : Int)) = e + ((bl (V l) : Nat) : Int) := waddx (by omega) (by omega) (by omega) (by omega)
  have t2 : wrap64 (((fb f : Nat) : Int) + 1) = ((fb f : Nat) : Int) + 1 := by clear t1; exact waddx (by omega) (by omega) (by omega) (by omega)
  have t3 : wrap64 (wrap64 (Int.tdiv ((mo f : Nat) : Int) 2) + 1) = wd f := by
    clear t1 t2
    have e3 : wrap64 (Int.tdiv ((mo f : Nat) : Int) 2) = ((mo f / 2 : Nat) : Int) := w64n (by show (0 : Int) ≤ ((mo f / 2 : Nat) : Int); omega) (by show ((mo f / 2 : Nat) : Int) < _; omega)
    rw [e3, waddx (by clear e3; omega) (by clear e3; omega) (by clear e3; omega) (by clear e3; omega), wd_eq h]
  have t4 := unit_wrap h he hw (by clear t1 t2 t3; omega : bl (V l) ≤ 100)
  have t5 : wrap64 (e - unit f (V l) e) = (((e - unit f (V l) e).toNat : Nat) : Int) := by clear t1 t2 t3 t4; rw [wsubx (by omega) (by omega) (by omega) (by omega)]; omega
  have t6 : wrap64 (unit f (V l) e - lo f) = (((unit f (V l) e - lo f).toNat : Nat) : Int) := by clear t1 t2 t3 t4 t5; rw [wsubx (by omega) (by omega) (by omega) (by omega)]; omega
  have hN := dyad_May_true hd
  have hlow := low_eq h
  have hop := word_open_nil h
  clear e1 e2 hA hB hE hplt hbig h2 hil hsp hm hub hu hul he hw hn hpf hsm
  unfold word_Of.f
  refine Ev.bind (hop) ?_; try dsimp only
  refine ev_neg (fun h => h rfl) ?_
  refine ev_bind (hN) ?_; try dsimp only
  refine ev_neg (by simp) ?_
  refine Ev.bind (hnum) ?_; try dsimp only
  refine Ev.bind (hL) ?_; try dsimp only
  rw [t2]
  refine ev_neg (by simp) (ev_neg c1 (ev_pos hVi ?_))
  refine ev_bind (hlow) ?_; try dsimp only
  refine ev_neg c2 ?_
  rw [t3, t1]
  refine ev_neg c3 (ev_neg hVi ?_)
  refine ev_bind (hlow) ?_; try dsimp only
  rw [t4, t5]
  refine ev_pos c4 ?_
  refine ev_bind (hlow) ?_; try dsimp only
  refine ev_pos c5 ?_
  rw [t6, t8, t9, t10, ← Int.natCast_add, t7]
  refine ev_bind (hj) ?_; try dsimp only
  exact Ev.now _
/-! ### named words -/
theorem named_end {f : Int} (h : isF f) (s : Bool) {x : Nat} (hx : x < sg f) : Ev (fun _ => if s = true then (some (Go.bits .or .u64 (x : Int) (sg f : Int), (0 : Int))) else (some ((x : Int), 0))) (((x + sgn f s : Nat) : Int), 0) := by
  unfold sgn
  cases s
  · (repeat (first | (with_reducible refine ev_pos ?_ ?_; focus (first | omega | assumption | (simp; done) | (simp; omega))) | (with_reducible refine ev_neg ?_ ?_; focus (first | omega | assumption | (simp; done) | (simp; omega)))))
    exact Ev.now _
  · (repeat (first | (with_reducible refine ev_pos ?_ ?_; focus (first | omega | assumption | (simp; done) | (simp; omega))) | (with_reducible refine ev_neg ?_ ?_; focus (first | omega | assumption | (simp; done) | (simp; omega)))))
    rw [or_sign h hx, if_pos rfl]
    exact Ev.now _
theorem word_Zero_ev {f : Int} (h : isF f) (s : Bool) : Ev (fun k => word_Zero.f k f s) (((sgn f s : Nat) : Int), 0) := by
  have hp := sg_pos h
  have hn := named_end h s (x := 0) hp.1
  rw [Nat.zero_add] at hn
  unfold word_Zero.f word_named_word_Zero_1.f
  refine Ev.bind (a := (((sgn f s : Nat) : Int), 0)) ?_ (Ev.now _)
  refine Ev.bind (word_open_nil h) ?_; try dsimp only
  (repeat (first | (with_reducible refine ev_pos ?_ ?_; focus (first | omega | assumption | (simp; done) | (simp; omega))) | (with_reducible refine ev_neg ?_ ?_; focus (first | omega | assumption | (simp; done) | (simp; omega)))))
  exact ev_bind rfl hn
theorem word_Inf_ev {f : Int} (h : isF f) (s : Bool) : Ev (fun k => word_Inf.f k f s) (((mo f * 2 ^ fb f + sgn f s : Nat) : Int), 0) := by
  have hil := inf_lt h
  have hp := pw_pos (fb f)
  have hn := named_end h s (x := mo f * 2 ^ fb f) (by omega)
  unfold word_Inf.f word_named_word_shape_inf.f
  refine Ev.bind (a := (((mo f * 2 ^ fb f + sgn f s : Nat) : Int), 0)) ?_ (Ev.now _)
  refine Ev.bind (word_open_nil h) ?_; try dsimp only
  (repeat (first | (with_reducible refine ev_pos ?_ ?_; focus (first | omega | assumption | (simp; done) | (simp; omega))) | (with_reducible refine ev_neg ?_ ?_; focus (first | omega | assumption | (simp; done) | (simp; omega)))))
  exact ev_bind (inf_eq h) hn
theorem word_Greatest_ev {f : Int} (h : isF f) (s : Bool) : Ev (fun k => word_Greatest.f k f s) (((mo f * 2 ^ fb f - 1 + sgn f s : Nat) : Int), 0) := by
  have hil := inf_lt h
  have hp := pw_pos (fb f)
  have hsp := sg_pos h
  have hm := mo_ge h
  have hq : 1 ≤ mo f * 2 ^ fb f := Nat.mul_pos (by omega) hp
  have hl : word_Greatest_1.f ((fb f : Nat) : Int) ((mo f : Nat) : Int) ((sg f : Nat) : Int) = some ((mo f * 2 ^ fb f - 1 : Nat) : Int) := by
    unfold word_Greatest_1.f
    rw [inf_eq h, Option.bind_some, u64m]
    congr 1
    omega
  have hn := named_end h s (x := mo f * 2 ^ fb f - 1) (by omega)
  unfold word_Greatest.f word_named_word_Greatest_1.f
  refine Ev.bind (a := (((mo f * 2 ^ fb f - 1 + sgn f s : Nat) : Int), 0)) ?_ (Ev.now _)
  refine Ev.bind (word_open_nil h) ?_; try dsimp only
  (repeat (first | (with_reducible refine ev_pos ?_ ?_; focus (first | omega | assumption | (simp; done) | (simp; omega))) | (with_reducible refine ev_neg ?_ ?_; focus (first | omega | assumption | (simp; done) | (simp; omega)))))
  exact ev_bind hl hn
/-- The canonical NaN. -/
def nanW (f : Int) : Nat := mo f * 2 ^ fb f + 2 ^ (fb f - 1)
theorem word_None_ev {f : Int} (h : isF f) : Ev (fun k => word_None.f k f) (((nanW f : Nat) : Int), 0) := by
  have hl : word_shape_none.f ((fb f : Nat) : Int) ((mo f : Nat) : Int) ((sg f : Nat) : Int) = some ((nanW f : Nat) : Int) := by
    rcases h with rfl | rfl <;> decide +kernel
  unfold word_None.f word_named_word_shape_none.f
  refine Ev.bind (a := (((nanW f : Nat) : Int), 0)) ?_ (Ev.now _)
  refine Ev.bind (word_open_nil h) ?_; try dsimp only
  (repeat (first | (with_reducible refine ev_pos ?_ ?_; focus (first | omega | assumption | (simp; done) | (simp; omega))) | (with_reducible refine ev_neg ?_ ?_; focus (first | omega | assumption | (simp; done) | (simp; omega)))))
  refine ev_bind (hl) ?_; try dsimp only
  (repeat (first | (with_reducible refine ev_pos ?_ ?_; focus (first | omega | assumption | (simp; done) | (simp; omega))) | (with_reducible refine ev_neg ?_ ?_; focus (first | omega | assumption | (simp; done) | (simp; omega)))))
  exact Ev.now _
end Go.Proofs.YtclegbgmhimenaaGreatDoor.Eng.K

/- Words of both formats, the reference: fields, class, named words, values. -/
set_option linter.unusedVariables false
set_option linter.unusedSimpArgs false
namespace Go.Proofs.YtclegbgmhimenaaGreatDoor.Eng.K
open Go.RowKit

instance (f : Int) : Decidable (isF f) := inferInstanceAs (Decidable (f = 1 ∨ f = 2))
theorem rIs_eq (f : Int) : cutplaneref03_Is.f f = some (decide (isF f)) := by
  unfold cutplaneref03_Is.f isF
  by_cases h : f = 1
  · rw [if_pos h]; simp [h]
  · rw [if_neg h]; simp [h]
def isM (m : Int) : Prop := 1 ≤ m ∧ m ≤ 5
instance (m : Int) : Decidable (isM m) := inferInstanceAs (Decidable (1 ≤ m ∧ m ≤ 5))
theorem rIsM_eq (m : Int) : cutplaneref04_Is.f m = some (decide (isM m)) := by
  unfold cutplaneref04_Is.f isM
  by_cases h : m ≥ 1
  · rw [if_pos h]; simp [show 1 ≤ m from h]
  · rw [if_neg h]; simp [show ¬ 1 ≤ m from h]
theorem rGood_eq {f : Int} (h : isF f) {w : Nat} (hw : w < 18446744073709551616) : cutplaneref03_Good.f f (w : Int) = some (goodE f w) := by
  unfold cutplaneref03_Good.f goodE
  rw [rIs_eq, decide_eq_true h, Option.bind_some, if_neg (by simp)]
  rcases h with rfl | rfl
  · rw [if_pos rfl]
    by_cases c : w < 2 * sg 1
    · rw [if_neg (by simp [sg] at c; omega), if_pos c]
    · rw [if_pos (by simp [sg] at c; omega), if_neg c]
  · rw [if_neg (by omega), if_pos (by simp [sg]; omega)]
theorem rSign_eq {f : Int} (h : isF f) : cutplaneref03_Sign.f f = some (sg f : Int) := by rcases h with rfl | rfl <;> rfl
theorem rFrac_eq {f : Int} (h : isF f) : cutplaneref03_Frac.f f = some (fb f : Int) := by rcases h with rfl | rfl <;> rfl
theorem rMost_eq {f : Int} (h : isF f) : cutplaneref03_Most.f f = some (mo f : Int) := by rcases h with rfl | rfl <;> rfl
theorem rLow_eq {f : Int} (h : isF f) : cutplaneref03_Low.f f = some (lo f) := by rcases h with rfl | rfl <;> rfl
theorem rWide_eq {f : Int} (h : isF f) : cutplaneref03_Wide.f f = some (wd f) := by rcases h with rfl | rfl <;> rfl
theorem wexpo_le {f : Int} (h : isF f) (w : Nat) : wexpo f w ≤ mo f := by
  have hz : w % sg f < sg f := Nat.mod_lt _ (sg_pos h).1
  have : wexpo f w < mo f + 1 := Nat.div_lt_of_lt_mul (by rw [← sg_big h]; exact hz)
  omega
theorem wfrac_lt (f : Int) (w : Nat) : wfrac f w < 2 ^ fb f := Nat.mod_lt _ (pw_pos _)
theorem w_parts (f : Int) (w : Nat) : w % sg f = wexpo f w * 2 ^ fb f + wfrac f w := by
  unfold wexpo wfrac
  have := Nat.div_add_mod (w % sg f) (2 ^ fb f)
  rw [Nat.mul_comm] at this
  exact this.symm
theorem rSplit_eq {f : Int} (h : isF f) (w : Nat) : cutplaneref03_Split.f f (w : Int) = some (wneg f w, (wexpo f w : Int), (wfrac f w : Int)) := by
  have hp := sg_pos h
  have hpp := pw_pos (fb f)
  have hm := mo_le h
  have hx := wexpo_le h w
  have h52 := fb_le h
  unfold cutplaneref03_Split.f
  rw [rSign_eq h, Option.bind_some, Option.bind_some, if_neg (by omega), rFrac_eq h, Option.bind_some, if_pos (by omega), one_shl h, if_neg (by omega), Option.bind_some, if_pos (by omega), tmod_n, tmod_n, shr_n _ _ (by show fb f ≤ 64; omega)]
  have e : wrap64 ((w % sg f / 2 ^ fb f : Nat) : Int) = (wexpo f w : Int) := by
    show wrap64 ((wexpo f w : Nat) : Int) = _
    exact w64n (by omega) (by omega)
  rw [e]
  have e2 : decide ((w : Int) ≥ (sg f : Int)) = wneg f w := decide_eq_decide.2 (by omega)
  rw [e2]
  rfl
theorem cls_eq {f : Int} (h : isF f) (w : Nat) : cls f w = if wexpo f w = 0 then (if wfrac f w = 0 then 1 else 2) else if wexpo f w < mo f then 3 else if wfrac f w = 0 then 4 else 5 := by
  have h1 := w_parts f w
  have h2 := wfrac_lt f w
  have h3 := wexpo_le h w
  have hpp := pw_pos (fb f)
  have hm := mo_ge h
  unfold cls
  rw [h1]
  generalize wfrac f w = r at *
  generalize wexpo f w = q at *
  generalize 2 ^ fb f = p at *
  by_cases c : q = 0
  · subst c
    simp only [Nat.zero_mul, Nat.zero_add, if_true]
    by_cases c2 : r = 0
    · simp [c2]
    · rw [if_neg c2, if_pos h2, if_neg c2]
  · have h4 : p ≤ q * p := Nat.le_mul_of_pos_left _ (by omega)
    rw [if_neg (by omega), if_neg (by omega), if_neg c]
    by_cases c2 : q < mo f
    · have h5 : (q + 1) * p ≤ mo f * p := Nat.mul_le_mul_right _ c2
      rw [Nat.add_mul, Nat.one_mul] at h5
      rw [if_pos (by omega), if_pos c2]
    · have h5 : q = mo f := by omega
      rw [h5, if_neg (by omega), if_neg (Nat.lt_irrefl _)]
      by_cases c3 : r = 0
      · rw [if_pos (by omega), if_pos c3]
      · rw [if_neg (by omega), if_neg c3]
theorem rClass_eq {f : Int} (h : isF f) (w : Nat) : cutplaneref03_Class.f f (w : Int) = some (cls f w) := by
  unfold cutplaneref03_Class.f
  rw [rSplit_eq h, Option.bind_some, cls_eq h, rMost_eq h]
  generalize wfrac f w = r
  generalize wexpo f w = q
  generalize mo f = m
  simp only [Option.bind_some]
  by_cases c : q = 0
  · rw [if_pos (by omega), if_pos c]
    by_cases c2 : r = 0
    · rw [if_pos (by omega), if_pos c2]
    · rw [if_neg (by omega), if_pos (by omega), if_neg c2]
  · rw [if_neg (by omega), if_neg (by omega), if_neg c]
    by_cases c2 : q < m
    · rw [if_pos (by omega), if_pos c2]
    · rw [if_neg (by omega), if_neg c2]
      by_cases c3 : r = 0
      · rw [if_pos (by omega), if_pos c3]
      · rw [if_neg (by omega), if_neg c3]
theorem rJoin_eq {f : Int} (h : isF f) (s : Bool) {q r : Nat} (hq : q * 2 ^ fb f + r < sg f) : cutplaneref03_Join.f f s (q : Int) (r : Int) = some ((q * 2 ^ fb f + r + sgn f s : Nat) : Int) := by
  have hp := sg_pos h
  have hpp := pw_pos (fb f)
  have h52 := fb_le h
  have hqq : q ≤ q * 2 ^ fb f := Nat.le_mul_of_pos_right _ hpp
  unfold cutplaneref03_Join.f sgn
  rw [rFrac_eq h, Option.bind_some, if_pos (by omega), rSign_eq h, u64 (n := (q : Int)) (by omega) (by omega), shl_u64 (by omega) (by omega), ← Int.natCast_add, u64 (n := ((q * 2 ^ fb f + r : Nat) : Int)) (by omega) (by omega)]
  cases s
  · rw [if_neg (by simp), if_neg (by simp)]; rfl
  · rw [if_pos rfl, if_pos rfl, Option.bind_some, ← Int.natCast_add, u64 (by omega) (by omega)]
theorem rNone_eq {f : Int} (h : isF f) : cutplaneref03_None.f f = some (nanW f : Int) := by
  rcases h with rfl | rfl <;> decide +kernel
theorem rSigned_eq {f : Int} (h : isF f) (w : Nat) (s : Bool) : cutplaneref03_Signed.f f (w : Int) s = some ((w % sg f + sgn f s : Nat) : Int) := by
  have hp := sg_pos h
  have hz : w % sg f < sg f := Nat.mod_lt _ hp.1
  unfold cutplaneref03_Signed.f sgn
  rw [rSign_eq h, Option.bind_some, if_neg (by omega), tmod_n]
  cases s
  · rw [if_neg (by simp), if_neg (by simp)]; rfl
  · rw [if_pos rfl, if_pos rfl, Option.bind_some, ← Int.natCast_add, u64 (by omega) (by omega)]
theorem wmag_lt {f : Int} (h : isF f) (w : Nat) : wmag f w < 18446744073709551616 := by
  have := wfrac_lt f w
  have := pfb h
  unfold wmag; split <;> omega
theorem wex_b {f : Int} (h : isF f) (w : Nat) : -1074 ≤ wex f w ∧ wex f w ≤ 3000 := by
  have := wexpo_le h w
  have := mo_le h
  have := lo_b h
  unfold wex; split <;> omega
theorem rValue_ev {f : Int} (h : isF f) (w : Nat) : Ev (fun k => cutplaneref03_Value.f k f (w : Int)) (mk (sv (wneg f w) (wmag f w)) (wex f w)) := by
  have hlt := wmag_lt h w
  have hwb := wex_b h w
  have hfr := wfrac_lt f w
  have hpw := pfb h
  have hx := wexpo_le h w
  have hm := mo_le h
  have hlo := lo_b h
  have o1 := ref_Of_ev (n := (wmag f w : Int)) (by omega) (by omega)
  rw [Int.toNat_natCast] at o1
  have f1 := ref_Form_ev (wneg f w) (Nm_D (wmag f w)) (by
    have : (D (wmag f w)).length ≤ 2 := D_lt (by omega)
    omega) (e := wex f w) (by omega) (by omega)
  rw [V_D] at f1
  unfold cutplaneref03_Value.f
  refine ev_bind (rSplit_eq h w) ?_; try dsimp only
  by_cases c : wexpo f w = 0
  · have e1 : wmag f w = wfrac f w := by unfold wmag; rw [if_pos c]
    have e2 : wex f w = lo f := by unfold wex; rw [if_pos c]; omega
    rw [e1] at o1
    rw [e1, e2] at f1
    refine ev_pos (by omega) ?_
    refine Ev.bind (o1) ?_; try dsimp only
    refine ev_bind (rLow_eq h) ?_; try dsimp only
    refine Ev.bind (f1) ?_; try dsimp only
    rw [e1, e2]
    exact Ev.now _
  · have e1 : wmag f w = 2 ^ fb f + wfrac f w := by unfold wmag; rw [if_neg c]
    have e2 : wex f w = (wexpo f w : Int) - 1 + lo f := by unfold wex; rw [if_neg c]
    have e3 : IntKind.u64.wrap (((2 ^ fb f : Nat) : Int) + (wfrac f w : Int)) = (wmag f w : Int) := by rw [e1, ← Int.natCast_add]; exact u64 (by omega) (by omega)
    have e4 : wrap64 (wrap64 ((wexpo f w : Int) - 1) + lo f) = wex f w := by rw [e2]; unfold wrap64; omega
    refine ev_neg (by omega) ?_
    refine ev_bind (rFrac_eq h) ?_; try dsimp only
    rw [one_shl h, e3]
    refine ev_pos (by omega) ?_
    refine Ev.bind (o1) ?_; try dsimp only
    refine ev_bind (rLow_eq h) ?_; try dsimp only
    rw [e4]
    refine Ev.bind (f1) ?_; try dsimp only
    exact Ev.now _
end Go.Proofs.YtclegbgmhimenaaGreatDoor.Eng.K

/- Dyadic numbers told as whole numbers times powers of two: what the operations make of such, the reference. -/
set_option linter.unusedVariables false
set_option linter.unusedSimpArgs false
namespace Go.Proofs.YtclegbgmhimenaaGreatDoor.Eng.K
open Go.RowKit

def mz (z e : Int) : Int := sv (mk z e).1 (V (mk z e).2.1)
def me (z e : Int) : Int := (mk z e).2.2
theorem mz_zero (e : Int) : mz 0 e = 0 := rfl
theorem sv_self (z : Int) : sv (decide (z < 0)) z.natAbs = z := by
  unfold sv
  by_cases h : z < 0
  · rw [decide_eq_true h, if_pos rfl]; omega
  · rw [decide_eq_false h, if_neg (by simp)]; omega
theorem mk_val {z : Int} (h : z ≠ 0) (e : Int) : ∃ j : Nat, z = mz z e * 2 ^ j ∧ me z e = e + (j : Int) ∧ mz z e ≠ 0 ∧ bl (mz z e).natAbs + j = bl z.natAbs := by
  have hn : z.natAbs ≠ 0 := by omega
  have hw := lw_lt hn
  obtain ⟨q, hq⟩ := lw_is hn
  have hd : z.natAbs / 2 ^ lw z.natAbs = 2 * q + 1 := by
    have : z.natAbs / 2 ^ lw z.natAbs = 2 ^ lw z.natAbs * (2 * q + 1) / 2 ^ lw z.natAbs := by rw [← hq]
    rw [this, Nat.mul_div_cancel_left _ (pw_pos _)]
  have hm : mz z e = sv (decide (z < 0)) (z.natAbs / 2 ^ lw z.natAbs) := by
    unfold mz mk; rw [if_neg h]; show sv _ (V (D _)) = _; rw [V_D]
  have he : me z e = e + (lw z.natAbs : Nat) := by unfold me mk; rw [if_neg h]
  refine ⟨lw z.natAbs, ?_, he, ?_, ?_⟩
  · rw [hm, hd]
    have h1 : sv (decide (z < 0)) (2 * q + 1) * 2 ^ lw z.natAbs = sv (decide (z < 0)) ((2 * q + 1) * 2 ^ lw z.natAbs) := by
      unfold sv
      split
      · rw [Int.neg_mul, Int.natCast_mul, Int.natCast_pow]; rfl
      · rw [Int.natCast_mul, Int.natCast_pow]; rfl
    rw [h1, Nat.mul_comm, ← hq, sv_self]
  · rw [hm, hd]; intro h2; have := sv_eq_zero.1 h2; omega
  · rw [hm, sv_abs, bl_down]; omega
theorem mk_mz (z e : Int) : mk (mz z e) (me z e) = mk z e := mk_self (Dy_mk z e)
theorem mk_len (z e : Int) : (mk z e).2.1.length ≤ (bl z.natAbs + 31) / 32 := by
  rw [mk_Near]
  refine len_bl ?_
  rw [bl_down]; omega
theorem me_b (z e : Int) : me z e = 0 ∧ z = 0 ∨ e ≤ me z e ∧ me z e ≤ e + (bl z.natAbs : Nat) := by
  by_cases h : z = 0
  · exact .inl ⟨by rw [h]; rfl, h⟩
  · obtain ⟨j, _, h2, _, h4⟩ := mk_val h e
    exact .inr (by omega)
theorem al_mz {z : Int} (h : z ≠ 0) {e m : Int} (hm : m ≤ e) : al (mz z e) (me z e) m = al z e m := by
  obtain ⟨j, h1, h2, _, _⟩ := mk_val h e
  rw [h2]
  have h3 : al z e m = al (mz z e * 2 ^ j) e m := by rw [← h1]
  rw [h3]
  unfold al
  rw [Int.mul_assoc, ← Int.pow_add]
  congr 2
  omega
theorem mz_ne {z : Int} (h : z ≠ 0) (e : Int) : mz z e ≠ 0 := by obtain ⟨j, _, _, h3, _⟩ := mk_val h e; exact h3
theorem addD_comm (za ea zb eb : Int) : addD za ea zb eb = addD zb eb za ea := by
  unfold addD; rw [Int.add_comm, Int.min_comm]
theorem addD_mz (za ea zb eb : Int) : addD (mz za ea) (me za ea) zb eb = addD za ea zb eb := by
  by_cases h : za = 0
  · subst h; rw [mz_zero, addD_zero_left, addD_zero_left]
  · have hb := me_b za ea
    have h1 : ea ≤ me za ea := by omega
    rw [← addD_at (za := mz za ea) (m := min ea eb) (by omega) (by omega), al_mz h (by omega)]
    rfl
theorem addD_mz2 (za ea zb eb : Int) : addD za ea (mz zb eb) (me zb eb) = addD za ea zb eb := by
  rw [addD_comm, addD_mz, addD_comm]
theorem addD_same (a b e : Int) : addD a e b e = mk (a + b) e := by
  unfold addD al
  rw [Int.min_self, Int.sub_self]; simp
theorem cmpD_zero_left (ea zb eb : Int) : cmpD 0 ea zb eb = -zb.sign := by
  unfold cmpD
  rw [al_zero, Int.zero_sub, Int.sign_neg, al_sign]
theorem cmpD_comm (za ea zb eb : Int) : cmpD za ea zb eb = -cmpD zb eb za ea := by
  unfold cmpD
  rw [← Int.sign_neg, Int.neg_sub, Int.min_comm]
theorem cmpD_mz (za ea zb eb : Int) : cmpD (mz za ea) (me za ea) zb eb = cmpD za ea zb eb := by
  by_cases h : za = 0
  · subst h; rw [mz_zero, cmpD_zero_left, cmpD_zero_left]
  · have hb := me_b za ea
    have h1 : ea ≤ me za ea := by omega
    rw [← cmpD_at (za := mz za ea) (m := min ea eb) (by omega) (by omega), al_mz h (by omega)]
    rfl
theorem cmpD_mz2 (za ea zb eb : Int) : cmpD za ea (mz zb eb) (me zb eb) = cmpD za ea zb eb := by
  rw [cmpD_comm, cmpD_mz, ← cmpD_comm]
theorem cmpD_same (a b e : Int) : cmpD a e b e = (a - b).sign := by
  unfold cmpD al
  rw [Int.min_self, Int.sub_self]; simp
theorem floor_up (z : Int) (j k : Nat) : z * 2 ^ j / 2 ^ (j + k) = z / 2 ^ k := by
  rw [Int.pow_add, Int.mul_comm z, Int.mul_ediv_mul_of_pos _ _ (Int.pow_pos (by omega))]
theorem floorD_up (z e : Int) (j : Nat) : floorD z (e + j) = floorD (z * 2 ^ j) e := by
  unfold floorD
  by_cases h : 0 ≤ e
  · rw [if_pos (by omega), if_pos h, Int.mul_assoc, ← Int.pow_add]
    congr 2; omega
  · rw [if_neg h]
    by_cases h2 : 0 ≤ e + (j : Int)
    · rw [if_pos h2]
      have e1 : z * 2 ^ j = z * 2 ^ (e + (j : Int)).toNat * 2 ^ (-e).toNat := by
        rw [Int.mul_assoc, ← Int.pow_add]; congr 2; omega
      rw [e1, Int.mul_ediv_cancel _ (by have := Int.pow_pos (n := 2) (m := (-e).toNat) (by omega); omega)]
    · rw [if_neg h2]
      have e1 : (-e).toNat = j + (-(e + (j : Int))).toNat := by omega
      rw [e1, floor_up]
theorem floorD_mz (z e n : Int) : floorD (mz z e) (me z e + n) = floorD z (e + n) := by
  by_cases h : z = 0
  · subst h; rw [mz_zero]; unfold floorD; split <;> split <;> simp
  · obtain ⟨j, h1, h2, _, _⟩ := mk_val h e
    have h3 : floorD z (e + n) = floorD (mz z e * 2 ^ j) (e + n) := by rw [← h1]
    rw [h3, h2, ← floorD_up]
    congr 1; omega
/-- Not too long, not too far out, for the reference. -/
structure Rg (z e : Int) : Prop where
  b : bl z.natAbs ≤ 10000000
  lo : -40000000 ≤ e
  hi : e ≤ 40000000
theorem rg_near {za ea zb eb : Int} (ha : Rg za ea) (hb : Rg zb eb) : Near (mk za ea).2.1 (me za ea) (mk zb eb).2.1 (me zb eb) := by
  have a1 := mk_len za ea
  have b1 := mk_len zb eb
  have a2 := me_b za ea
  have b2 := me_b zb eb
  obtain ⟨h1, h2, h3⟩ := ha
  obtain ⟨h4, h5, h6⟩ := hb
  refine ⟨by omega, by omega, by omega, by omega⟩
theorem rAdd_mk {za ea zb eb : Int} (ha : Rg za ea) (hb : Rg zb eb) : Ev (fun k => cutplaneref02_Add.f k (mk za ea).1 (mk za ea).2.1 (mk za ea).2.2 (mk zb eb).1 (mk zb eb).2.1 (mk zb eb).2.2) (addD za ea zb eb) := by
  refine ev_eq (ref_Add2_ev (Dy_mk za ea) (Dy_mk zb eb) (rg_near ha hb)) ?_
  show addD (mz za ea) (me za ea) (mz zb eb) (me zb eb) = _
  rw [addD_mz, addD_mz2]
theorem mz_neg (z e : Int) : mz (-z) e = -mz z e ∧ me (-z) e = me z e := by
  by_cases h : z = 0
  · subst h; exact ⟨rfl, rfl⟩
  · have hv := Dy_neg (Dy_mk z e)
    have h1 : mk (-mz z e) (me z e) = mk (-z) e := by
      obtain ⟨j, h1, h2, h3, h4⟩ := mk_val h e
      have h5 : mk (-z) e = mk (-mz z e * 2 ^ j) e := by rw [Int.neg_mul, ← h1]
      rw [h5, mk_up, h2]
    have h2 : mk (-(sv (mk z e).1 (V (mk z e).2.1))) (mk z e).2.2 = mk (-z) e := h1
    rw [h2] at hv
    refine ⟨?_, hv.2.2⟩
    have h3 : mz (-z) e = sv (mk (-z) e).1 (V (mk z e).2.1) := by unfold mz; rw [hv.1]
    rw [h3, hv.2.1]; rfl
theorem rSub_mk {za ea zb eb : Int} (ha : Rg za ea) (hb : Rg zb eb) : Ev (fun k => cutplaneref02_Sub.f k (mk za ea).1 (mk za ea).2.1 (mk za ea).2.2 (mk zb eb).1 (mk zb eb).2.1 (mk zb eb).2.2) (addD za ea (-zb) eb) := by
  refine ev_eq (ref_Sub2_ev (Dy_mk za ea) (Dy_mk zb eb) (rg_near ha hb)) ?_
  show addD (mz za ea) (me za ea) (-mz zb eb) (me zb eb) = _
  rw [addD_mz, ← (mz_neg zb eb).1, ← (mz_neg zb eb).2, addD_mz2]
theorem rCmp_mk {za ea zb eb : Int} (ha : Rg za ea) (hb : Rg zb eb) : Ev (fun k => cutplaneref02_Cmp.f k (mk za ea).1 (mk za ea).2.1 (mk za ea).2.2 (mk zb eb).1 (mk zb eb).2.1 (mk zb eb).2.2) (cmpD za ea zb eb) := by
  refine ev_eq (ref_Cmp2_ev (Dy_mk za ea) (Dy_mk zb eb) (rg_near ha hb)) ?_
  show cmpD (mz za ea) (me za ea) (mz zb eb) (me zb eb) = _
  rw [cmpD_mz, cmpD_mz2]
theorem rNeg_mk (z e : Int) : cutplaneref02_Neg.f (mk z e).1 (mk z e).2.1 (mk z e).2.2 = some (mk (-z) e) := by
  rw [ref_Neg2_eq (Dy_mk z e)]
  congr 1
  show mk (-mz z e) (me z e) = _
  rw [← (mz_neg z e).1, ← (mz_neg z e).2, mk_mz]
theorem rSign_mk (z e : Int) : cutplaneref02_Sign.f (mk z e).1 (mk z e).2.1 (mk z e).2.2 = some z.sign := by
  rw [ref_Sign2_eq (Dy_mk z e), mk_sign]
theorem rMul_mk {za ea zb eb : Int} (ha : Rg za ea) (hb : Rg zb eb) : Ev (fun k => cutplaneref02_Mul.f k (mk za ea).1 (mk za ea).2.1 (mk za ea).2.2 (mk zb eb).1 (mk zb eb).2.1 (mk zb eb).2.2) (mk (za * zb) (ea + eb)) := by
  have a1 := mk_len za ea
  have b1 := mk_len zb eb
  have a2 := me_b za ea
  have b2 := me_b zb eb
  obtain ⟨h1, h2, h3⟩ := ha
  obtain ⟨h4, h5, h6⟩ := hb
  have e1 : (mk za ea).2.2 = me za ea := rfl
  have e2 : (mk zb eb).2.2 = me zb eb := rfl
  refine ev_eq (ref_Mul2_ev (Dy_mk za ea) (Dy_mk zb eb) (by omega) (by omega) (by omega) (by omega) (by omega) (by omega)) ?_
  show mk (mz za ea * mz zb eb) (me za ea + me zb eb) = _
  by_cases c : za = 0
  · subst c; rw [mz_zero, Int.zero_mul, Int.zero_mul]; rfl
  by_cases c2 : zb = 0
  · subst c2; rw [mz_zero, Int.mul_zero, Int.mul_zero]; rfl
  obtain ⟨j, p1, p2, _, _⟩ := mk_val c ea
  obtain ⟨i, q1, q2, _, _⟩ := mk_val c2 eb
  have e3 : za * zb = mz za ea * mz zb eb * 2 ^ (j + i) := by
    conv => lhs; rw [p1, q1]
    rw [Int.pow_add, Int.mul_assoc, Int.mul_assoc]
    congr 1
    rw [Int.mul_left_comm]
  rw [e3, mk_up, p2, q2]
  congr 1
  omega
theorem rShift_mk (z : Int) {e n : Int} (hb : bl z.natAbs ≤ 10000000000) (h1 : -10000000000000 ≤ e) (h2 : e ≤ 10000000000000) (h3 : -10000000000000 ≤ n) (h4 : n ≤ 10000000000000) : cutplaneref02_Shift.f (mk z e).1 (mk z e).2.1 (mk z e).2.2 n = some (mk z (e + n)) := by
  have a2 := me_b z e
  have e1 : (mk z e).2.2 = me z e := rfl
  rw [ref_Shift2_eq (Dy_mk z e) (by omega) (by omega) (by omega) (by omega)]
  congr 1
  show mk (mz z e) (me z e + n) = _
  by_cases c : z = 0
  · subst c; rfl
  · obtain ⟨j, p1, p2, _, _⟩ := mk_val c e
    have e3 : mk z (e + n) = mk (mz z e * 2 ^ j) (e + n) := by rw [← p1]
    rw [e3, mk_up, p2]
    congr 1; omega
theorem rFloor_mk {z e : Int} (hb : bl z.natAbs ≤ 20000000) (h1 : -800000000 ≤ e) (h2 : e ≤ 800000000) : Ev (fun k => cutplaneref02_Floor.f k (mk z e).1 (mk z e).2.1 (mk z e).2.2) (mk (floorD z e) 0) := by
  have a1 := mk_len z e
  have a2 := me_b z e
  have e1 : (mk z e).2.2 = me z e := rfl
  refine ev_eq (ref_Floor2_ev (Dy_mk z e) (by omega) (by omega) (by omega)) ?_
  show mk (floorD (mz z e) (me z e)) 0 = _
  have := floorD_mz z e 0
  rw [Int.add_zero, Int.add_zero] at this
  rw [this]
theorem rSame_mk (a e b e' : Int) (h : bl a.natAbs ≤ 1000000000) : Ev (fun k => cutplaneref02_Same.f k (mk a e).1 (mk a e).2.1 (mk a e).2.2 (mk b e').1 (mk b e').2.1 (mk b e').2.2) (decide (mk a e = mk b e')) := by
  have a1 := mk_len a e
  exact ref_Same2_ev _ _ _ _ _ _ (by omega)
theorem mk_inj {a b e : Int} (h : mk a e = mk b e) : a = b := by
  by_cases c : a = 0
  · by_cases c2 : b = 0
    · rw [c, c2]
    · exfalso
      have h1 := mz_ne c2 e
      have h2 : mz a e = mz b e := by unfold mz; rw [h]
      rw [c, mz_zero] at h2
      exact h1 h2.symm
  · by_cases c2 : b = 0
    · exfalso
      have h1 := mz_ne c e
      have h2 : mz a e = mz b e := by unfold mz; rw [h]
      rw [c2, mz_zero] at h2
      exact h1 h2
    · have h2 : mz a e = mz b e := by unfold mz; rw [h]
      have h3 : me a e = me b e := by unfold me; rw [h]
      obtain ⟨j, p1, p2, _, _⟩ := mk_val c e
      obtain ⟨i, q1, q2, _, _⟩ := mk_val c2 e
      have : j = i := by omega
      subst this
      rw [p1, q1, h2]
theorem mk_eq_iff {a b ea eb m : Int} (h1 : m ≤ ea) (h2 : m ≤ eb) : mk a ea = mk b eb ↔ al a ea m = al b eb m := by
  rw [← mk_al (z := a) h1, ← mk_al (z := b) h2]
  exact ⟨mk_inj, fun h => by rw [h]⟩
end Go.Proofs.YtclegbgmhimenaaGreatDoor.Eng.K

/- Rounding: a size taken to a whole number of units; the reference's way to it. -/
set_option linter.unusedVariables false
set_option linter.unusedSimpArgs false
namespace Go.Proofs.YtclegbgmhimenaaGreatDoor.Eng.K
open Go.RowKit

/-- Does a size go up? -/
def upB (m : Int) (s odd half more : Bool) : Bool :=
  if m = 1 then half && (more || odd) else if m = 2 then half else if m = 4 then !s && (half || more) else if m = 5 then s && (half || more) else false
/-- n in units of 2^k, rounded. -/
def rnd (m : Int) (s : Bool) (n k : Nat) : Nat :=
  n / 2 ^ k + (if upB m s (decide (n / 2 ^ k % 2 = 1)) (decide (2 ^ k ≤ 2 * (n % 2 ^ k))) (decide (2 * (n % 2 ^ k) % 2 ^ k ≠ 0)) = true then 1 else 0)
theorem rnd_exact {m : Int} {s : Bool} {n k : Nat} (h : n % 2 ^ k = 0) : rnd m s n k = n / 2 ^ k := by
  have hp := pw_pos k
  unfold rnd
  rw [h]
  have e1 : decide (2 ^ k ≤ 2 * 0) = false := decide_eq_false (by omega)
  have e2 : decide (2 * 0 % 2 ^ k ≠ 0) = false := decide_eq_false (by simp)
  rw [e1, e2]
  unfold upB
  simp
theorem rnd_zero (m : Int) (s : Bool) (n : Nat) : rnd m s n 0 = n := by
  rw [rnd_exact (by rw [Nat.pow_zero, Nat.mod_one]), Nat.pow_zero, Nat.div_one]
theorem rnd_up (m : Int) (s : Bool) (n k j : Nat) : rnd m s (n * 2 ^ j) (k + j) = rnd m s n k := by
  have hj := pw_pos j
  have hk := pw_pos k
  have e1 : n * 2 ^ j / 2 ^ (k + j) = n / 2 ^ k := by rw [Nat.pow_add, Nat.mul_div_mul_right _ _ hj]
  have e2 : n * 2 ^ j % 2 ^ (k + j) = n % 2 ^ k * 2 ^ j := by rw [Nat.pow_add, Nat.mul_mod_mul_right]
  unfold rnd
  rw [e1, e2]
  have e3 : decide (2 ^ (k + j) ≤ 2 * (n % 2 ^ k * 2 ^ j)) = decide (2 ^ k ≤ 2 * (n % 2 ^ k)) := decide_eq_decide.2 (by
    rw [Nat.pow_add, ← Nat.mul_assoc]
    exact ⟨fun h => Nat.le_of_mul_le_mul_right h hj, fun h => Nat.mul_le_mul_right _ h⟩)
  have e4 : decide (2 * (n % 2 ^ k * 2 ^ j) % 2 ^ (k + j) ≠ 0) = decide (2 * (n % 2 ^ k) % 2 ^ k ≠ 0) := decide_eq_decide.2 (by
    rw [Nat.pow_add, ← Nat.mul_assoc, Nat.mul_mod_mul_right]
    constructor
    · intro h h2; exact h (by rw [h2, Nat.zero_mul])
    · intro h h2
      rcases Nat.mul_eq_zero.1 h2 with h3 | h3
      · exact h h3
      · omega)
  rw [e3, e4]
/-- n 2^e in units of 2^E, rounded. -/
def R (m : Int) (s : Bool) (n : Nat) (e E : Int) : Nat := rnd m s (n * 2 ^ (e - E).toNat) (E - e).toNat
theorem R_up (m : Int) (s : Bool) (n : Nat) (e E : Int) (j : Nat) : R m s (n * 2 ^ j) e E = R m s n (e + j) E := by
  unfold R
  by_cases h : E ≤ e
  · have e1 : (E - e).toNat = 0 := by omega
    have e2 : (E - (e + (j : Int))).toNat = 0 := by omega
    rw [e1, e2, rnd_zero, rnd_zero, Nat.mul_assoc, ← Nat.pow_add]
    congr 2; omega
  · by_cases h2 : E ≤ e + (j : Int)
    · have e1 : (e - E).toNat = 0 := by omega
      have e2 : (E - (e + (j : Int))).toNat = 0 := by omega
      rw [e1, e2, rnd_zero, Nat.pow_zero, Nat.mul_one]
      have e3 : n * 2 ^ j = n * 2 ^ (e + (j : Int) - E).toNat * 2 ^ (E - e).toNat := by
        rw [Nat.mul_assoc, ← Nat.pow_add]; congr 2; omega
      rw [e3]
      have := rnd_up m s (n * 2 ^ (e + (j : Int) - E).toNat) 0 (E - e).toNat
      rw [Nat.zero_add, rnd_zero] at this
      exact this
    · have e1 : (e - E).toNat = 0 := by omega
      have e2 : (e + (j : Int) - E).toNat = 0 := by omega
      have e3 : (E - e).toNat = (E - (e + (j : Int))).toNat + j := by omega
      rw [e1, e2, e3, Nat.pow_zero, Nat.mul_one, Nat.mul_one, rnd_up]
/-- Is nothing lost? -/
def exR (n : Nat) (e E : Int) : Bool := decide (n % 2 ^ (E - e).toNat = 0)
theorem exR_up (n : Nat) (e E : Int) (j : Nat) : exR (n * 2 ^ j) e E = exR n (e + j) E := by
  unfold exR
  apply decide_eq_decide.2
  by_cases h2 : E ≤ e + (j : Int)
  · have e2 : (E - (e + (j : Int))).toNat = 0 := by omega
    rw [e2, Nat.pow_zero, Nat.mod_one]
    have e3 : n * 2 ^ j = n * 2 ^ (j - (E - e).toNat) * 2 ^ (E - e).toNat := by
      rw [Nat.mul_assoc, ← Nat.pow_add]; congr 2; omega
    rw [e3, Nat.mul_mod_left]
  · have e3 : (E - e).toNat = (E - (e + (j : Int))).toNat + j := by omega
    rw [e3, Nat.pow_add, Nat.mul_mod_mul_right]
    constructor
    · intro h
      rcases Nat.mul_eq_zero.1 h with h3 | h3
      · exact h3
      · have := pw_pos j; omega
    · intro h; rw [h, Nat.zero_mul]
theorem bl_succ (q : Nat) : bl (q + 1) ≤ bl q + 1 := by
  refine bl_le_of_lt ?_
  have := lt_bl q
  rw [Nat.pow_succ]
  have := pw_pos (bl q)
  omega
/-! ### the reference -/
/-- What is taken of z 2^e in units of 2^E. -/
def TK (m : Int) (z e E : Int) : Int := sv (decide (z < 0)) (R m (decide (z < 0)) z.natAbs e E)
theorem exR_iff {z e E : Int} : exR z.natAbs e E = true ↔ mk (floorD z (e - E)) E = mk z e := by
  unfold exR floorD
  rw [decide_eq_true_iff]
  by_cases c : E ≤ e
  · have e1 : (E - e).toNat = 0 := by omega
    rw [e1, Nat.pow_zero, Nat.mod_one, if_pos (by omega), mk_up, show E + ((e - E).toNat : Int) = e by omega]
    simp
  · rw [if_neg (by omega), show (-(e - E)).toNat = (E - e).toNat by omega]
    generalize hk : (E - e).toNat = k
    have hE : E = e + (k : Int) := by omega
    rw [hE, ← mk_up]
    constructor
    · intro h
      congr 1
      have h1 : (2 ^ k : Int) ∣ z := by
        have h2 : 2 ^ k ∣ z.natAbs := Nat.dvd_of_mod_eq_zero h
        have h3 : ((2 ^ k : Nat) : Int) ∣ z := Int.ofNat_dvd_left.2 h2
        rwa [Int.natCast_pow] at h3
      exact Int.ediv_mul_cancel h1
    · intro h
      have h1 := mk_inj h
      have h2 : (2 ^ k : Int) ∣ z := ⟨z / 2 ^ k, by rw [Int.mul_comm]; exact h1.symm⟩
      have h3 : ((2 ^ k : Nat) : Int) ∣ z := by rw [Int.natCast_pow]; exact h2
      exact Nat.mod_eq_zero_of_dvd (Int.ofNat_dvd_left.1 h3)
theorem TK_exact {m z e E : Int} (h : exR z.natAbs e E = true) : mk (TK m z e E) E = mk z e := by
  unfold TK R
  unfold exR at h
  have h := of_decide_eq_true h
  by_cases c : E ≤ e
  · have e1 : (E - e).toNat = 0 := by omega
    rw [e1, rnd_zero]
    have e2 : sv (decide (z < 0)) (z.natAbs * 2 ^ (e - E).toNat) = z * 2 ^ (e - E).toNat := by
      have := al_sv (decide (z < 0)) z.natAbs e E
      rw [sv_self] at this
      exact this.symm
    rw [e2, mk_up]; congr 1; omega
  · have e1 : (e - E).toNat = 0 := by omega
    rw [e1, Nat.pow_zero, Nat.mul_one, rnd_exact h]
    generalize hk : (E - e).toNat = k at *
    have hE : E = e + (k : Int) := by omega
    rw [hE, ← mk_up]
    congr 1
    have e2 : sv (decide (z < 0)) (z.natAbs / 2 ^ k) * 2 ^ k = sv (decide (z < 0)) (z.natAbs / 2 ^ k * 2 ^ k) := by
      unfold sv; split
      · rw [Int.neg_mul, Int.natCast_mul, Int.natCast_pow]; rfl
      · rw [Int.natCast_mul, Int.natCast_pow]; rfl
    rw [e2, Nat.div_mul_cancel (Nat.dvd_of_mod_eq_zero h), sv_self]
/-- What is taken when something is lost: the floor, or one more. -/
def pick (m : Int) (s : Bool) (F c : Int) : Int :=
  if m = 5 then F else if m = 4 then F + 1 else if m = 3 then (if s = true then F + 1 else F)
  else if c < 0 then F else if c > 0 then F + 1 else if m = 2 then (if s = true then F else F + 1) else if F % 2 = 0 then F else F + 1
theorem pick_pos (m : Int) (hm : isM m) (n k : Nat) (h : n % 2 ^ k ≠ 0) : pick m false ((n : Int) / 2 ^ k) (2 * ((n : Int) % 2 ^ k) - 2 ^ k).sign = (rnd m false n k : Int) := by
  have hp := pw_pos k
  have e0 : (2 : Int) ^ k = ((2 ^ k : Nat) : Int) := by rw [Int.natCast_pow]; rfl
  have hlt := Nat.mod_lt n hp
  rw [e0]
  have e1 : (n : Int) / ((2 ^ k : Nat) : Int) = ((n / 2 ^ k : Nat) : Int) := rfl
  have e2 : (n : Int) % ((2 ^ k : Nat) : Int) = ((n % 2 ^ k : Nat) : Int) := rfl
  rw [e1, e2]
  have e3 : decide (2 * (n % 2 ^ k) % 2 ^ k ≠ 0) = decide (2 * (n % 2 ^ k) ≠ 2 ^ k) := decide_eq_decide.2 (by
    generalize n % 2 ^ k = r at *
    generalize 2 ^ k = p at *
    by_cases c : 2 * r < p
    · rw [Nat.mod_eq_of_lt c]; omega
    · have : 2 * r % p = 2 * r - p := by
        rw [Nat.mod_eq_sub_mod (by omega), Nat.mod_eq_of_lt (by omega)]
      rw [this]; omega)
  unfold rnd
  rw [e3]
  generalize n % 2 ^ k = r at *
  generalize n / 2 ^ k = q at *
  generalize 2 ^ k = p at *
  unfold pick upB
  obtain ⟨m1, m2⟩ := hm
  have hm5 : m = 1 ∨ m = 2 ∨ m = 3 ∨ m = 4 ∨ m = 5 := by omega
  rcases Nat.lt_trichotomy (2 * r) p with c | c | c
  · have s1 : (2 * (r : Int) - (p : Int)).sign = -1 := Int.sign_eq_neg_one_of_neg (by omega)
    have d1 : decide (p ≤ 2 * r) = false := decide_eq_false (by omega)
    have d2 : decide (2 * r ≠ p) = true := decide_eq_true (by omega)
    rw [s1, d1, d2]
    rcases hm5 with rfl | rfl | rfl | rfl | rfl <;> simp
  · have s1 : (2 * (r : Int) - (p : Int)).sign = 0 := by
      have : 2 * (r : Int) - (p : Int) = 0 := by omega
      rw [this]; rfl
    have d1 : decide (p ≤ 2 * r) = true := decide_eq_true (by omega)
    have d2 : decide (2 * r ≠ p) = false := decide_eq_false (by omega)
    rw [s1, d1, d2]
    rcases hm5 with rfl | rfl | rfl | rfl | rfl <;> simp
    by_cases hq : q % 2 = 1
    · rw [if_neg (by omega)]; simp [hq]
    · rw [if_pos (by omega)]; simp [hq]
  · have s1 : (2 * (r : Int) - (p : Int)).sign = 1 := Int.sign_eq_one_of_pos (by omega)
    have d1 : decide (p ≤ 2 * r) = true := decide_eq_true (by omega)
    have d2 : decide (2 * r ≠ p) = true := decide_eq_true (by omega)
    rw [s1, d1, d2]
    rcases hm5 with rfl | rfl | rfl | rfl | rfl <;> simp
theorem pick_neg (m : Int) (hm : isM m) (n k : Nat) (h : n % 2 ^ k ≠ 0) : pick m true (-(n : Int) / 2 ^ k) (2 * (-(n : Int) % 2 ^ k) - 2 ^ k).sign = -(rnd m true n k : Int) := by
  have hp := pw_pos k
  have e0 : (2 : Int) ^ k = ((2 ^ k : Nat) : Int) := by rw [Int.natCast_pow]; rfl
  have hlt := Nat.mod_lt n hp
  have e1 := floor_sv true n k
  rw [if_pos ⟨rfl, h⟩] at e1
  have e1 : -(n : Int) / 2 ^ k = -((n / 2 ^ k + 1 : Nat) : Int) := e1
  have e2 : -(n : Int) % 2 ^ k = ((2 ^ k - n % 2 ^ k : Nat) : Int) := by
    have h1 := Int.mul_ediv_add_emod (-(n : Int)) (2 ^ k)
    rw [e1, e0] at h1
    have h2 := Nat.div_add_mod n (2 ^ k)
    rw [e0]
    rw [Int.mul_neg, ← Int.natCast_mul, Nat.mul_add, Nat.mul_one] at h1
    generalize -(n : Int) % ((2 ^ k : Nat) : Int) = y at *
    generalize 2 ^ k * (n / 2 ^ k) = w at *
    omega
  rw [e1, e2, e0]
  have e3 : decide (2 * (n % 2 ^ k) % 2 ^ k ≠ 0) = decide (2 * (n % 2 ^ k) ≠ 2 ^ k) := decide_eq_decide.2 (by
    generalize n % 2 ^ k = r at *
    generalize 2 ^ k = p at *
    by_cases c : 2 * r < p
    · rw [Nat.mod_eq_of_lt c]; omega
    · have : 2 * r % p = 2 * r - p := by
        rw [Nat.mod_eq_sub_mod (by omega), Nat.mod_eq_of_lt (by omega)]
      rw [this]; omega)
  unfold rnd
  rw [e3]
  clear e1 e2 e3
  generalize n % 2 ^ k = r at *
  generalize n / 2 ^ k = q at *
  generalize 2 ^ k = p at *
  unfold pick upB
  obtain ⟨m1, m2⟩ := hm
  have hm5 : m = 1 ∨ m = 2 ∨ m = 3 ∨ m = 4 ∨ m = 5 := by omega
  have hpr : ((p - r : Nat) : Int) = (p : Int) - (r : Int) := by omega
  rw [hpr]
  rcases Nat.lt_trichotomy (2 * r) p with c | c | c
  · have s1 : (2 * ((p : Int) - (r : Int)) - (p : Int)).sign = 1 := Int.sign_eq_one_of_pos (by omega)
    have d1 : decide (p ≤ 2 * r) = false := decide_eq_false (by omega)
    have d2 : decide (2 * r ≠ p) = true := decide_eq_true (by omega)
    rw [s1, d1, d2]
    rcases hm5 with rfl | rfl | rfl | rfl | rfl <;> simp <;> omega
  · have s1 : (2 * ((p : Int) - (r : Int)) - (p : Int)).sign = 0 := by
      have : 2 * ((p : Int) - (r : Int)) - (p : Int) = 0 := by omega
      rw [this]; rfl
    have d1 : decide (p ≤ 2 * r) = true := decide_eq_true (by omega)
    have d2 : decide (2 * r ≠ p) = false := decide_eq_false (by omega)
    rw [s1, d1, d2]
    rcases hm5 with rfl | rfl | rfl | rfl | rfl <;> simp <;> try omega
    by_cases hq : q % 2 = 1
    · rw [if_pos (by omega)]; simp [hq]
    · rw [if_neg (by omega)]; simp [hq]; omega
  · have s1 : (2 * ((p : Int) - (r : Int)) - (p : Int)).sign = -1 := Int.sign_eq_neg_one_of_neg (by omega)
    have d1 : decide (p ≤ 2 * r) = true := decide_eq_true (by omega)
    have d2 : decide (2 * r ≠ p) = true := decide_eq_true (by omega)
    rw [s1, d1, d2]
    rcases hm5 with rfl | rfl | rfl | rfl | rfl <;> simp <;> omega
theorem pick_TK {m : Int} (hm : isM m) {z e E : Int} (h : exR z.natAbs e E = false) : e < E ∧ pick m (decide (z < 0)) (floorD z (e - E)) (2 * (z % 2 ^ (E - e).toNat) - 2 ^ (E - e).toNat).sign = TK m z e E := by
  unfold exR at h
  have h := of_decide_eq_false h
  have c : e < E := by
    rcases Int.lt_or_le e E with c | c
    · exact c
    · exfalso
      have e1 : (E - e).toNat = 0 := by omega
      rw [e1, Nat.pow_zero, Nat.mod_one] at h
      exact h rfl
  refine ⟨c, ?_⟩
  unfold TK R floorD
  rw [if_neg (by omega), show (e - E).toNat = 0 by omega, show (-(e - E)).toNat = (E - e).toNat by omega, Nat.pow_zero, Nat.mul_one]
  generalize (E - e).toNat = k at *
  by_cases hz : z < 0
  · obtain ⟨n, rfl⟩ : ∃ n : Nat, z = -(n : Int) := ⟨z.natAbs, by omega⟩
    have e1 : (-(n : Int)).natAbs = n := by omega
    rw [e1] at h ⊢
    rw [decide_eq_true hz]
    show _ = -((rnd m true n k : Nat) : Int)
    exact pick_neg m hm n k h
  · obtain ⟨n, rfl⟩ : ∃ n : Nat, z = (n : Int) := ⟨z.natAbs, by omega⟩
    have e1 : ((n : Int)).natAbs = n := by omega
    rw [e1] at h ⊢
    rw [decide_eq_false hz]
    show _ = ((rnd m false n k : Nat) : Int)
    exact pick_pos m hm n k h
end Go.Proofs.YtclegbgmhimenaaGreatDoor.Eng.K

/- Rounding, the reference: what is taken of a number; the word and the flags. -/
set_option linter.unusedVariables false
set_option linter.unusedSimpArgs false
namespace Go.Proofs.YtclegbgmhimenaaGreatDoor.Eng.K
open Go.RowKit

theorem rTwo_eq (e : Int) : cutplaneref02_Two.f e = some (mk 1 e) := by
  unfold cutplaneref02_Two.f mk
  have h : lw (1 : Int).natAbs = 0 := lw_odd rfl
  have hd : D 1 = [1] := by rw [D_pos (by omega)]; simp [D_zero]
  rw [if_neg (by omega), h]
  show some (false, ([1] : List Int), e) = some (false, D (1 / 1), e + 0)
  rw [Nat.div_one, hd, Int.add_zero]
theorem rhalf_mk {z e : Int} (hb : bl z.natAbs ≤ 10000000000) (h1 : -10000000000000 ≤ e) (h2 : e ≤ 10000000000000) : cutplaneref04_half.f (mk z e).1 (mk z e).2.1 (mk z e).2.2 = some (mk z (e + -1)) := by
  unfold cutplaneref04_half.f
  rw [rShift_mk z hb h1 h2 (by omega) (by omega)]
  rfl
theorem wneg64 {E : Int} (h1 : -1000000000 ≤ E) (h2 : E ≤ 1000000000) : wrap64 (-E) = -E := by unfold wrap64; omega
theorem floorD_bl {z e : Int} : bl (floorD z e).natAbs ≤ bl z.natAbs + 1 + e.toNat := by
  unfold floorD
  by_cases c : 0 ≤ e
  · rw [if_pos c, Int.natAbs_mul, Int.natAbs_pow]
    have := bl_up_le z.natAbs e.toNat
    exact Nat.le_trans this (by omega)
  · rw [if_neg c]
    have h1 := floor_sv (decide (z < 0)) z.natAbs (-e).toNat
    rw [sv_self] at h1
    rw [h1, sv_abs]
    have h2 : z.natAbs / 2 ^ (-e).toNat + (if decide (z < 0) = true ∧ z.natAbs % 2 ^ (-e).toNat ≠ 0 then 1 else 0) ≤ z.natAbs / 2 ^ (-e).toNat + 1 := by split <;> omega
    have h3 := bl_mono h2
    have h4 := bl_succ (z.natAbs / 2 ^ (-e).toNat)
    have h5 := bl_down z.natAbs (-e).toNat
    omega
theorem al_lift (z e : Int) (k : Nat) : al z (e + k) e = z * 2 ^ k := by
  unfold al; congr 2; omega
theorem al_self (z e : Int) : al z e e = z := by unfold al; rw [Int.sub_self]; simp
theorem addD_lift (a b e : Int) (k : Nat) : addD a e b (e + k) = mk (a + b * 2 ^ k) e := by
  rw [← addD_at (m := e) (by omega) (by omega), al_self, al_lift]
theorem pick_big (m : Int) (s : Bool) (F c : Int) : pick m s F c = if m = 5 then F else if m = 4 then F + 1 else if m = 3 then (if s = true then F + 1 else F) else if c < 0 then F else if c > 0 then F + 1 else if m = 2 then (if s = true then F else F + 1) else if F % 2 = 0 then F else F + 1 := rfl
theorem bl_half (F : Int) : bl (F / 2).natAbs ≤ bl F.natAbs + 1 := by
  have := floorD_bl (z := F) (e := -1)
  unfold floorD at this
  rw [if_neg (by omega)] at this
  exact this
theorem rTaken_j1 {m : Int} {z e E F B S : Int} {k : Nat} (hb : bl z.natAbs ≤ 9000000) (h1 : -4000000 ≤ e) (h2 : e ≤ 4000000) (h3 : -4000000 ≤ E) (h4 : E ≤ 4000000) (hE : E = e + k) (hF : F = z / 2 ^ k) (s : Bool) (hB : B = if s = true then F else F + 1) (hS : S = if s = true then F + 1 else F) (u : Bool) (v : List Int) (w : Int) :
    Ev (fun q => cutplaneref04_Taken.j1 q m E (mk z e).1 (mk z e).2.1 (mk z e).2.2 u v w (mk F E).1 (mk F E).2.1 (mk F E).2.2 (mk (F + 1) E).1 (mk (F + 1) E).2.1 (mk (F + 1) E).2.2 (mk B E).1 (mk B E).2.1 (mk B E).2.2 (mk S E).1 (mk S E).2.1 (mk S E).2.2) (mk (pick m s F (2 * (z % 2 ^ k) - 2 ^ k).sign) E) := by
  have hFb : bl F.natAbs ≤ bl z.natAbs + 1 := by
    rcases Nat.eq_zero_or_pos k with h | h
    · subst h; rw [hF, Int.pow_zero, Int.ediv_one]; omega
    · have := floorD_bl (z := z) (e := -(k : Int))
      unfold floorD at this
      rw [if_neg (by omega), show (-(-(k : Int))).toNat = k by omega, ← hF] at this
      omega
  have hF1 : bl (F + 1).natAbs ≤ bl z.natAbs + 2 := by
    have h5 : (F + 1).natAbs ≤ F.natAbs + 1 := by omega
    have h6 := bl_mono h5
    have h7 := bl_succ F.natAbs
    omega
  have rz : Rg z e := ⟨by omega, by omega, by omega⟩
  have rF : Rg F E := ⟨by omega, by omega, by omega⟩
  have rF1 : Rg (F + 1) E := ⟨by omega, by omega, by omega⟩
  have hdm := Int.mul_ediv_add_emod z (2 ^ k)
  rw [← hF] at hdm
  have hr0 : 0 ≤ z % 2 ^ k := Int.emod_nonneg _ (by have := pow_pos_int k; omega)
  have hr1 : z % 2 ^ k < 2 ^ k := Int.emod_lt_of_pos _ (pow_pos_int k)
  have ez : z + -F * 2 ^ k = z % 2 ^ k := by
    rw [Int.neg_mul, Int.mul_comm]; omega
  have ez2 : -z + (F + 1) * 2 ^ k = 2 ^ k - z % 2 ^ k := by
    rw [Int.add_mul, Int.one_mul, Int.mul_comm F]; omega
  have s1 := rSub_mk rz rF
  have s2 := rSub_mk rF1 rz
  have a1 : addD z e (-F) E = mk (z % 2 ^ k) e := by rw [hE, addD_lift, ez]
  have a2 : addD (F + 1) E (-z) e = mk (2 ^ k - z % 2 ^ k) e := by rw [addD_comm, hE, addD_lift, ez2]
  rw [a1] at s1
  rw [a2] at s2
  clear ez ez2 a1 a2
  have kb : k ≤ 8000000 := by omega
  refine ev_step ?_
  simp only [cutplaneref04_Taken.j1]
  rw [pick_big]
  by_cases c5 : m = 5
  · rw [if_pos c5]; exact ev_pos c5 (Ev.now _)
  rw [if_neg c5]
  refine ev_neg c5 ?_
  by_cases c4 : m = 4
  · rw [if_pos c4]; exact ev_pos c4 (Ev.now _)
  rw [if_neg c4]
  refine ev_neg c4 ?_
  by_cases c3 : m = 3
  · rw [if_pos c3, ← hS]; exact ev_pos c3 (Ev.now _)
  rw [if_neg c3]
  refine ev_neg c3 ?_
  refine Ev.bind (s1) ?_; try dsimp only
  refine Ev.bind (s2) ?_; try dsimp only
  -- the rest is short enough when something is behind the unit
  have rr : ∀ x : Int, 0 ≤ x → x ≤ 2 ^ k → bl x.natAbs ≤ k + 1 := by
    intro x hx hx2
    have h5 : x.natAbs ≤ 2 ^ k := by
      have h6 : ((2 ^ k : Nat) : Int) = 2 ^ k := by rw [Int.natCast_pow]; rfl
      omega
    refine bl_le_of_lt (Nat.lt_of_le_of_lt h5 ?_)
    rw [Nat.pow_succ]
    have := pw_pos k
    omega
  have x1 := rr (z % 2 ^ k) hr0 (by omega)
  have x2 := rr (2 ^ k - z % 2 ^ k) (by omega) (by omega)
  have cc := rCmp_mk (za := z % 2 ^ k) (ea := e) (zb := 2 ^ k - z % 2 ^ k) (eb := e) ⟨by omega, by omega, by omega⟩ ⟨by omega, by omega, by omega⟩
  have ec : cmpD (z % 2 ^ k) e (2 ^ k - z % 2 ^ k) e = (2 * (z % 2 ^ k) - 2 ^ k).sign := by
    rw [cmpD_same]; congr 1; omega
  rw [ec] at cc
  refine Ev.bind (cc) ?_; try dsimp only
  by_cases c0 : (2 * (z % 2 ^ k) - 2 ^ k).sign < 0
  · rw [if_pos c0]; exact ev_pos c0 (Ev.now _)
  rw [if_neg c0]
  refine ev_neg c0 ?_
  by_cases c1 : (2 * (z % 2 ^ k) - 2 ^ k).sign > 0
  · rw [if_pos c1]; exact ev_pos c1 (Ev.now _)
  rw [if_neg c1]
  refine ev_neg c1 ?_
  by_cases c2 : m = 2
  · rw [if_pos c2, ← hB]; exact ev_pos c2 (Ev.now _)
  rw [if_neg c2]
  refine ev_neg c2 ?_
  rw [wneg64 (by omega) (by omega)]
  refine ev_bind (rShift_mk F (by omega) (by omega) (by omega) (by omega) (by omega)) ?_; try dsimp only
  rw [show E + -E = 0 by omega]
  refine ev_bind (rhalf_mk (by omega) (by omega) (by omega)) ?_; try dsimp only
  refine Ev.bind (rFloor_mk (by omega) (by omega) (by omega)) ?_; try dsimp only
  refine ev_bind (rhalf_mk (by omega) (by omega) (by omega)) ?_; try dsimp only
  have hf : floorD F (0 + -1) = F / 2 := rfl
  rw [hf]
  have hbh := bl_half F
  refine Ev.bind (rSame_mk _ _ _ _ (by omega)) ?_; try dsimp only
  have hs : (mk (F / 2) 0 = mk F (0 + -1)) ↔ F % 2 = 0 := by
    rw [mk_eq_iff (m := -1) (by omega) (by omega)]
    have e1 : al (F / 2) 0 (-1) = F / 2 * 2 := by unfold al; rfl
    have e2 : al F (0 + -1) (-1) = F := by rw [Int.zero_add, al_self]
    rw [e1, e2]; omega
  by_cases c6 : F % 2 = 0
  · rw [if_pos c6]; exact ev_pos (decide_eq_true (hs.2 c6)) (Ev.now _)
  · rw [if_neg c6]; exact ev_neg (by rw [decide_eq_false (fun h => c6 (hs.1 h))]; simp) (Ev.now _)
theorem rTaken_ev {m : Int} (hm : isM m) {z e E : Int} (hz : z ≠ 0) (hb : bl z.natAbs ≤ 9000000) (h1 : -4000000 ≤ e) (h2 : e ≤ 4000000) (h3 : -4000000 ≤ E) (h4 : E ≤ 4000000) :
    Ev (fun q => cutplaneref04_Taken.f q m (mk z e).1 (mk z e).2.1 (mk z e).2.2 E) (mk (TK m z e E) E) := by
  have hFb := floorD_bl (z := z) (e := e - E)
  unfold cutplaneref04_Taken.f
  rw [wneg64 (by omega) (by omega)]
  refine ev_bind (rShift_mk z (by omega) (by omega) (by omega) (by omega) (by omega)) ?_; try dsimp only
  rw [show e + -E = e - E by omega]
  refine Ev.bind (rFloor_mk (by omega) (by omega) (by omega)) ?_; try dsimp only
  generalize hF : floorD z (e - E) = F at *
  refine ev_bind (rShift_mk F (by omega) (by omega) (by omega) (by omega) (by omega)) ?_; try dsimp only
  rw [Int.zero_add]
  refine Ev.bind (rSame_mk F E z e (by omega)) ?_; try dsimp only
  have hx := exR_iff (z := z) (e := e) (E := E)
  rw [hF] at hx
  cases c : exR z.natAbs e E
  · obtain ⟨hlt, hp⟩ := pick_TK (m := m) hm c
    rw [hF] at hp
    have hn : ¬ (mk F E = mk z e) := fun h => by have := hx.2 h; rw [c] at this; cases this
    refine ev_neg (by rw [decide_eq_false hn]; simp) ?_
    refine ev_bind (rTwo_eq E) ?_; try dsimp only
    have hk : E = e + ((E - e).toNat : Nat) := by omega
    have rF : Rg F E := ⟨by omega, by omega, by omega⟩
    have r1 : Rg 1 E := ⟨by decide, by omega, by omega⟩
    have ha := rAdd_mk rF r1
    rw [addD_same] at ha
    refine Ev.bind (ha) ?_; try dsimp only
    have hF2 : F = z / 2 ^ (E - e).toNat := by
      rw [← hF]; unfold floorD
      rw [if_neg (by omega), show (-(e - E)).toNat = (E - e).toNat by omega]
    have hs : (mk z e).1 = decide (z < 0) := by unfold mk; rw [if_neg hz]
    have j1 := fun s B S hB hS => rTaken_j1 (m := m) (B := B) (S := S) hb h1 h2 h3 h4 hk hF2 s hB hS false [] 0
    rw [hs]
    by_cases hz2 : z < 0
    · rw [decide_eq_true hz2] at hp ⊢
      refine ev_pos rfl ?_
      have := j1 true F (F + 1) rfl rfl
      rw [hp, hs, decide_eq_true hz2] at this
      exact this
    · rw [decide_eq_false hz2] at hp ⊢
      refine ev_neg (by simp) ?_
      have := j1 false (F + 1) F rfl rfl
      rw [hp, hs, decide_eq_false hz2] at this
      exact this
  · have hn := hx.1 c
    refine ev_pos (decide_eq_true hn) (ev_eq (Ev.now _) ?_)
    rw [TK_exact c]
end Go.Proofs.YtclegbgmhimenaaGreatDoor.Eng.K

/- Rounding, the reference: the word and the flags. -/
set_option linter.unusedVariables false
set_option linter.unusedSimpArgs false
namespace Go.Proofs.YtclegbgmhimenaaGreatDoor.Eng.K
open Go.RowKit

/-- Towards nought, as the sign stands? -/
def inw (m : Int) (s : Bool) : Bool := decide (m = 3) || (decide (m = 4) && s) || (decide (m = 5) && !s)
def overW (f m : Int) (s : Bool) : Nat := (if inw m s = true then mo f * 2 ^ fb f - 1 else mo f * 2 ^ fb f) + sgn f s
theorem two_digits {X : Nat} (h0 : X ≠ 0) (h : X < 18446744073709551616) : 0 < (D X).length ∧ (D X).length ≤ 2 ∧ rd (D X) 0 = ((X % 4294967296 : Nat) : Int) ∧ ((D X).length > 1 → rd (D X) 1 = ((X / 4294967296 : Nat) : Int)) ∧ ((D X).length ≤ 1 → X < 4294967296) := by
  have h1 : D X = ((X % 4294967296 : Nat) : Int) :: D (X / 4294967296) := D_pos h0
  have h2 : (D (X / 4294967296)).length ≤ 1 := D_lt (by omega)
  refine ⟨by rw [h1]; simp, by rw [h1]; simp; omega, by rw [h1]; rfl, ?_, ?_⟩
  · intro h3
    have h4 : X / 4294967296 ≠ 0 := by
      intro h4
      rw [h1, h4, D_zero] at h3
      simp at h3
    rw [h1, D_pos h4]
    show (((X / 4294967296 % 4294967296 : Nat)) : Int) = _
    omega
  · intro h3
    rcases Nat.lt_or_ge X 4294967296 with h4 | h4
    · exact h4
    · exfalso
      have h5 : X / 4294967296 ≠ 0 := by omega
      rw [h1, D_pos h5] at h3
      simp at h3
theorem rOf_j4 {f : Int} (h : isF f) {X : Nat} {U : Int} (hX : X < 2 ^ pr f) (hU : lo f ≤ U) (hU2 : (U - lo f).toNat ≤ mo f - 2) (hn : X < 2 ^ fb f → U = lo f) (l : List Int) (e : Int) (s : Bool) :
    Ev (fun k => cutplaneref03_Of.j4 k f s l e U (X : Int)) (((((U - lo f).toNat * 2 ^ fb f + X) + sgn f s : Nat) : Int), true) := by
  have hb := fb_le h
  have hp := pw_pos (fb f)
  have hpr := pr_eq h
  have h2 := two_fb h
  have hl := lo_b h
  have hm := mo_ge h
  have hil := inf_lt h
  have hsp := sg_pos h
  have hpw := pfb h
  have hm2 := mo_le h
  rw [hpr, Nat.pow_succ] at hX
  have hmm : (mo f - 2) * 2 ^ fb f + 2 ^ fb f * 2 = mo f * 2 ^ fb f := by
    rw [Nat.mul_comm (2 ^ fb f) 2, ← Nat.add_mul]; congr 1; omega
  have hle := Nat.mul_le_mul_right (2 ^ fb f) hU2
  refine ev_step ?_
  simp only [cutplaneref03_Of.j4]
  refine ev_bind (rFrac_eq h) ?_; try dsimp only
  rw [shr_n X (fb f) (by show fb f ≤ 64; omega)]
  refine ev_pos (by omega) ?_
  by_cases c : X < 2 ^ fb f
  · have hU3 := hn c
    have e0 : (U - lo f).toNat = 0 := by omega
    refine ev_neg (by rw [Nat.div_eq_of_lt c]; omega) ?_
    have := rJoin_eq h s (q := 0) (r := X) (by omega)
    rw [show ((0 : Nat) : Int) = 0 from rfl] at this
    refine ev_bind (this) ?_; try dsimp only
    refine ev_eq (Ev.now _) ?_
    rw [e0]
  · have hd : 0 < X / 2 ^ fb f := Nat.div_pos (by omega) hp
    refine ev_pos (by omega) ?_
    refine ev_bind (rFrac_eq h) ?_; try dsimp only
    refine ev_pos (by omega) ?_
    refine ev_bind (rLow_eq h) ?_; try dsimp only
    rw [one_shl h]
    have e1 : wrap64 (wrap64 (U - lo f) + 1) = (((U - lo f).toNat + 1 : Nat) : Int) := by unfold wrap64; omega
    have e2 : IntKind.u64.wrap ((X : Int) - ((2 ^ fb f : Nat) : Int)) = ((X - 2 ^ fb f : Nat) : Int) := by
      have : (X : Int) - ((2 ^ fb f : Nat) : Int) = ((X - 2 ^ fb f : Nat) : Int) := by omega
      rw [this]; exact u64 (by omega) (by omega)
    rw [e1, e2]
    have hs : ((U - lo f).toNat + 1) * 2 ^ fb f + (X - 2 ^ fb f) = (U - lo f).toNat * 2 ^ fb f + X := by
      rw [Nat.add_mul, Nat.one_mul]; omega
    have := rJoin_eq h s (q := (U - lo f).toNat + 1) (r := X - 2 ^ fb f) (by omega)
    rw [hs] at this
    refine ev_bind (this) ?_; try dsimp only
    exact Ev.now _
theorem wtwo {a b : Int} (h1 : -1000000000 ≤ a) (h2 : a ≤ 1000000000) (h3 : -1000000000 ≤ b) (h4 : b ≤ 1000000000) : wrap64 (wrap64 (a - b) - 1) = a - b - 1 := by unfold wrap64; omega
theorem rOf_ev {f : Int} (h : isF f) {s : Bool} {l : List Int} {e : Int} (hd : Dy s l e) (h0 : l ≠ []) (hn : bl (V l) ≤ pr f) (he : lo f ≤ e) (hw : e + (bl (V l) : Nat) ≤ wd f) :
    Ev (fun k => cutplaneref03_Of.f k f s l e) (((enc f (V l) e + sgn f s : Nat) : Int), true) := by
  have hV : V l ≠ 0 := fun c => h0 ((V_eq_zero hd.nm).1 c)
  have hl := lo_b h
  have hwb := wd_b h
  have hpr := pr_eq h
  have hfb := fb_le h
  have hll : l.length ≤ 2 := by
    have h1 : (D (V l)).length ≤ 2 := len_bl (by omega)
    rwa [hd.nm] at h1
  obtain ⟨e1, e2⟩ := enc_lt h hn he hw
  have hplt := part_lt hn he
  have hu := unit_le hn he
  have hul := unit_ge f (V l) e
  have hsg : (sv s (V l)).sign ≠ 0 := by rw [sv_sign hV]; split <;> omega
  have htop : top (sv s (V l)) e = e + (bl (V l) : Nat) := by unfold top; rw [if_neg (fun h => hV (sv_eq_zero.1 h)), sv_abs]
  have ht := ref_Top2_ev hd (by omega) (by omega) (by omega)
  rw [htop] at ht
  have hlen := ref_Len_ev hd.nm (by omega)
  have h2 := two_fb h
  have hun : unit f (V l) e = max (e + (bl (V l) : Nat) - (pr f : Nat)) (lo f) := rfl
  have hj := rOf_j4 h (X := V l * 2 ^ (e - unit f (V l) e).toNat) (U := unit f (V l) e) hplt hul e2 (by
    intro hx
    have h3 : bl (V l * 2 ^ (e - unit f (V l) e).toNat) ≤ fb f := bl_le_of_lt hx
    rw [bl_up hV] at h3
    omega) l e s
  have hup := ref_Up_ev hd.nm.dg (by omega) (e - unit f (V l) e).toNat (by omega)
  have hX0 : V l * 2 ^ (e - unit f (V l) e).toNat ≠ 0 := by
    have := Nat.mul_pos (Nat.pos_of_ne_zero hV) (pw_pos (e - unit f (V l) e).toNat)
    omega
  have hpf := pw_pos (fb f)
  obtain ⟨d1, d2, d3, d4, d5⟩ := two_digits hX0 (by omega)
  have hf : enc f (V l) e = (unit f (V l) e - lo f).toNat * 2 ^ fb f + V l * 2 ^ (e - unit f (V l) e).toNat := rfl
  rw [← hf] at hj
  have last : Ev (fun k => cutplaneref03_Of.j3 k f s l e (unit f (V l) e)) (((enc f (V l) e + sgn f s : Nat) : Int), true) := by
    refine ev_step ?_
    simp only [cutplaneref03_Of.j3]
    have ew : wrap64 (e - unit f (V l) e) = ((e - unit f (V l) e).toNat : Int) := by unfold wrap64; omega
    rw [ew]
    clear ew
    refine Ev.bind (hup) ?_; try dsimp only
    clear hf e1
    generalize hX : V l * 2 ^ (e - unit f (V l) e).toNat = X at *
    have hXl : X < 18446744073709551616 := by omega
    refine ev_pos (by omega) ?_
    by_cases c : (D X).length > 1
    · have x1 := d4 c
      have y0 : IntKind.u64.wrap ((X % 4294967296 : Nat) : Int) = ((X % 4294967296 : Nat) : Int) := u64 (by omega) (by omega)
      have y1 : IntKind.u64.wrap ((X / 4294967296 : Nat) : Int) = ((X / 4294967296 : Nat) : Int) := u64 (by omega) (by omega)
      have y2 : IntKind.u64.wrap (((X / 4294967296 : Nat) : Int) * 4294967296) = ((X / 4294967296 * 4294967296 : Nat) : Int) := by
        rw [show ((X / 4294967296 : Nat) : Int) * 4294967296 = ((X / 4294967296 * 4294967296 : Nat) : Int) by omega]
        exact u64 (by omega) (by omega)
      have y3 : IntKind.u64.wrap (((X % 4294967296 : Nat) : Int) + ((X / 4294967296 * 4294967296 : Nat) : Int)) = (X : Int) := by
        rw [show ((X % 4294967296 : Nat) : Int) + ((X / 4294967296 * 4294967296 : Nat) : Int) = (X : Int) by omega]
        exact u64 (by omega) (by omega)
      refine ev_pos (by omega) (ev_pos (by omega) ?_)
      rw [d3, x1, y0, y1, y2, y3]
      exact hj
    · have x1 := d5 (by omega)
      have y0 : IntKind.u64.wrap ((X % 4294967296 : Nat) : Int) = (X : Int) := by
        rw [show ((X % 4294967296 : Nat) : Int) = (X : Int) by omega]
        exact u64 (by omega) (by omega)
      refine ev_neg (by omega) ?_
      rw [d3, y0]
      exact hj
  have w1 : wrap64 ((fb f : Int) + 1) = (fb f : Int) + 1 := by unfold wrap64; omega
  have w2 : wrap64 (wrap64 (e + (bl (V l) : Nat) - (fb f : Int)) - 1) = e + (bl (V l) : Nat) - (fb f : Int) - 1 := by
    clear w1; exact wtwo (by omega) (by omega) (by omega) (by omega)
  unfold cutplaneref03_Of.f
  refine ev_bind (ref_Sign2_eq hd) ?_; try dsimp only
  refine ev_neg hsg ?_
  refine Ev.bind (ht) ?_; try dsimp only
  refine ev_bind (rWide_eq h) ?_; try dsimp only
  refine ev_neg (by clear w1 w2; omega) ?_
  refine ev_bind (rLow_eq h) ?_; try dsimp only
  refine ev_neg (by clear w1 w2; omega) ?_
  refine Ev.bind (hlen) ?_; try dsimp only
  refine ev_bind (rFrac_eq h) ?_; try dsimp only
  rw [w1]
  refine ev_neg (by clear w1 w2; omega) ?_
  refine ev_bind (rFrac_eq h) ?_; try dsimp only
  refine ev_bind (rLow_eq h) ?_; try dsimp only
  rw [w2]
  clear w1 w2
  by_cases c : e + (bl (V l) : Nat) - (fb f : Int) - 1 < lo f
  · refine ev_pos c ?_
    refine ev_bind (rLow_eq h) ?_; try dsimp only
    have : lo f = unit f (V l) e := by omega
    rw [this]
    exact last
  · refine ev_neg c ?_
    have : e + (bl (V l) : Nat) - (fb f : Int) - 1 = unit f (V l) e := by omega
    rw [this]
    exact last
end Go.Proofs.YtclegbgmhimenaaGreatDoor.Eng.K

/- Rounding: what it comes to, and the reference's way to it. -/
set_option linter.unusedVariables false
set_option linter.unusedSimpArgs false
namespace Go.Proofs.YtclegbgmhimenaaGreatDoor.Eng.K
open Go.RowKit

/-- The word of a size, of its one form. -/
def encN (f : Int) (n : Nat) (e : Int) : Nat := enc f (n / 2 ^ lw n) (e + (lw n : Nat))
/-- The word to which a size is rounded, and the flags. -/
def unitR (f : Int) (n : Nat) (e : Int) : Int := max (e + (bl n : Nat) - (pr f : Nat)) (lo f)
def roundS (f m : Int) (s : Bool) (n : Nat) (e : Int) : Int × Int :=
  let q := R m s n e (unitR f n e)
  if (bl q : Int) + unitR f n e > wd f then ((overW f m s : Int), 20)
  else ((((if q = 0 then 0 else encN f q (unitR f n e)) + sgn f s : Nat) : Int),
    if exR n e (unitR f n e) = true then 0
    else if (bl (R m s n e (e + (bl n : Nat) - (pr f : Nat))) : Int) + (e + (bl n : Nat) - (pr f : Nat)) < lo f + (pr f : Nat) then 24 else 16)
theorem odd_bl {q p : Nat} (h0 : q ≠ 0) (h : q ≤ 2 ^ p) : bl (q / 2 ^ lw q) ≤ p ∨ p = 0 := by
  rcases Nat.eq_zero_or_pos p with hp | hp
  · exact .inr hp
  left
  rcases Nat.lt_or_ge q (2 ^ p) with c | c
  · exact bl_le_of_lt (Nat.lt_of_le_of_lt (Nat.div_le_self _ _) c)
  · have e : q = 2 ^ p := by omega
    have hw : lw q = p := lw_eq ⟨0, by rw [e]; omega⟩
    rw [hw, e, Nat.div_self (pw_pos p)]
    have : bl 1 = 1 := by decide
    omega
theorem top_lw {n : Nat} (h : n ≠ 0) : bl (n / 2 ^ lw n) + lw n = bl n := by
  have := lw_lt h
  rw [bl_down]; omega
theorem TK_zero (m z e E : Int) : TK m z e E = 0 ↔ R m (decide (z < 0)) z.natAbs e E = 0 := by unfold TK; exact sv_eq_zero
end Go.Proofs.YtclegbgmhimenaaGreatDoor.Eng.K

/- Rounding, the program: the first bits of a number, and what is behind them. -/
set_option linter.unusedVariables false
set_option linter.unusedSimpArgs false
namespace Go.Proofs.YtclegbgmhimenaaGreatDoor.Eng.K
open Go.RowKit

def bN (b : Bool) : Nat := if b = true then 1 else 0
/-- What is known of a size: its first bits H, and whether something is behind them; d of the bits below the unit. -/
theorem rnd_eq {m : Int} {s : Bool} {n k n' k' : Nat} (h1 : n / 2 ^ k = n' / 2 ^ k') (h2 : 2 ^ k ≤ 2 * (n % 2 ^ k) ↔ 2 ^ k' ≤ 2 * (n' % 2 ^ k')) (h3 : 2 * (n % 2 ^ k) % 2 ^ k = 0 ↔ 2 * (n' % 2 ^ k') % 2 ^ k' = 0) : rnd m s n k = rnd m s n' k' := by
  unfold rnd
  rw [h1, decide_eq_decide.2 h2, decide_eq_decide.2 (show 2 * (n % 2 ^ k) % 2 ^ k ≠ 0 ↔ 2 * (n' % 2 ^ k') % 2 ^ k' ≠ 0 from not_congr h3)]
theorem dbl_mod {x M : Nat} (h : x < M) : 2 * x % M = 0 ↔ x = 0 ∨ 2 * x = M := by
  by_cases c : 2 * x < M
  · rw [Nat.mod_eq_of_lt c]; omega
  · have : 2 * x % M = 2 * x - M := by rw [Nat.mod_eq_sub_mod (by omega), Nat.mod_eq_of_lt (by omega)]
    rw [this]; omega
theorem split_pow {H j r d : Nat} (hr : r < 2 ^ j) : (H * 2 ^ j + r) / 2 ^ (d + j) = H / 2 ^ d ∧ (H * 2 ^ j + r) % 2 ^ (d + j) = H % 2 ^ d * 2 ^ j + r := by
  have := shift_nat (X := H) (P := 2 ^ j) (Q := 2 ^ d) (c := r) (pw_pos j) hr
  rw [Nat.pow_add, Nat.mul_comm (2 ^ d)]
  exact ⟨this.1, by rw [this.2, Nat.mul_comm]⟩
/-- Only whether something is behind counts. -/
theorem rnd_sticky (m : Int) (s : Bool) {H j r d : Nat} (hr : r < 2 ^ j) (hd : 1 ≤ d) : rnd m s (H * 2 ^ j + r) (d + j) = rnd m s (2 * H + bN (decide (r ≠ 0))) (d + 1) := by
  have hb : bN (decide (r ≠ 0)) < 2 ^ 1 := by unfold bN; split <;> omega
  have hb0 : bN (decide (r ≠ 0)) = 0 ↔ r = 0 := by
    unfold bN
    by_cases c : r = 0
    · simp [c]
    · simp [c]
  have e0 : 2 * H + bN (decide (r ≠ 0)) = H * 2 ^ 1 + bN (decide (r ≠ 0)) := by omega
  rw [e0]
  generalize bN (decide (r ≠ 0)) = b at *
  obtain ⟨a1, a2⟩ := split_pow (H := H) (d := d) hr
  obtain ⟨b1, b2⟩ := split_pow (H := H) (d := d) hb
  have hh := Nat.mod_lt H (pw_pos d)
  have hj := pw_pos j
  obtain ⟨d', rfl⟩ : ∃ d', d = d' + 1 := ⟨d - 1, by omega⟩
  have he : 2 ^ (d' + 1) = 2 * 2 ^ d' := by rw [Nat.pow_succ, Nat.mul_comm]
  refine rnd_eq (by rw [a1, b1]) ?_ ?_
  · rw [a2, b2, Nat.pow_add 2 (d' + 1) j, Nat.pow_add 2 (d' + 1) 1, he]
    rw [he] at hh
    generalize H % (2 * 2 ^ d') = h at *
    generalize 2 ^ d' = p at *
    generalize 2 ^ j = q at *
    constructor
    · intro h1
      rcases Nat.lt_or_ge h p with c | c
      · exfalso
        have h2 : (h + 1) * q ≤ p * q := Nat.mul_le_mul_right _ c
        rw [Nat.add_mul, Nat.one_mul] at h2
        rw [Nat.mul_assoc] at h1
        omega
      · omega
    · intro h1
      have h2 : p * q ≤ h * q := Nat.mul_le_mul_right _ (by omega)
      rw [Nat.mul_assoc]; omega
  · have l1 : H % 2 ^ (d' + 1) * 2 ^ j + r < 2 ^ (d' + 1 + j) := by
      rw [Nat.pow_add 2 (d' + 1) j]
      have h2 : (H % 2 ^ (d' + 1) + 1) * 2 ^ j ≤ 2 ^ (d' + 1) * 2 ^ j := Nat.mul_le_mul_right _ hh
      rw [Nat.add_mul, Nat.one_mul] at h2
      omega
    have l2 : H % 2 ^ (d' + 1) * 2 ^ 1 + b < 2 ^ (d' + 1 + 1) := by rw [Nat.pow_add 2 (d' + 1) 1]; omega
    rw [a2, b2, dbl_mod l1, dbl_mod l2, Nat.pow_add 2 (d' + 1) j, Nat.pow_add 2 (d' + 1) 1, he]
    rw [he] at hh
    generalize H % (2 * 2 ^ d') = h at *
    generalize 2 ^ d' = p at *
    generalize 2 ^ j = q at *
    constructor
    · rintro (h1 | h1)
      · have h2 : h * q = 0 := by omega
        rcases Nat.mul_eq_zero.1 h2 with h3 | h3
        · left; have := hb0.2 (by omega); omega
        · omega
      · right
        rw [Nat.mul_assoc] at h1
        rcases Nat.lt_trichotomy h p with c | c | c
        · have h2 : (h + 1) * q ≤ p * q := Nat.mul_le_mul_right _ c
          rw [Nat.add_mul, Nat.one_mul] at h2
          omega
        · subst c
          have := hb0.2 (by omega)
          omega
        · have h2 : (p + 1) * q ≤ h * q := Nat.mul_le_mul_right _ c
          rw [Nat.add_mul, Nat.one_mul] at h2
          omega
    · rintro (h1 | h1)
      · left
        have h2 : h = 0 := by omega
        have h3 := hb0.1 (by omega)
        rw [h2, h3]; omega
      · right
        have h2 : h = p := by omega
        have h3 := hb0.1 (by omega)
        rw [h2, h3, Nat.mul_assoc]; omega
theorem ex_sticky {H j r d : Nat} (hr : r < 2 ^ j) : (H * 2 ^ j + r) % 2 ^ (d + j) = 0 ↔ (2 * H + bN (decide (r ≠ 0))) % 2 ^ (d + 1) = 0 := by
  have hb : bN (decide (r ≠ 0)) < 2 ^ 1 := by unfold bN; split <;> omega
  have hb0 : bN (decide (r ≠ 0)) = 0 ↔ r = 0 := by
    unfold bN
    by_cases c : r = 0
    · simp [c]
    · simp [c]
  have e0 : 2 * H + bN (decide (r ≠ 0)) = H * 2 ^ 1 + bN (decide (r ≠ 0)) := by omega
  rw [e0]
  generalize bN (decide (r ≠ 0)) = b at *
  rw [(split_pow (H := H) (d := d) hr).2, (split_pow (H := H) (d := d) hb).2]
  have hj := pw_pos j
  constructor
  · intro h
    have h2 : H % 2 ^ d * 2 ^ j = 0 := by omega
    rcases Nat.mul_eq_zero.1 h2 with h3 | h3
    · have := hb0.2 (by omega); omega
    · omega
  · intro h
    have h2 : H % 2 ^ d = 0 := by omega
    have h3 := hb0.1 (by omega)
    rw [h2, h3]; omega
/-- In units of 2^E, of first bits H with their top at T. -/
def UP (m : Int) (s : Bool) (H : Nat) (T : Int) (b : Bool) (E : Int) : Nat := rnd m s (2 * H + bN b) ((E - T + 64).toNat + 1)
def XP (H : Nat) (T : Int) (b : Bool) (E : Int) : Bool := decide ((2 * H + bN b) % 2 ^ ((E - T + 64).toNat + 1) = 0)
/-- A number's first 64 bits. -/
def hd64 (n : Nat) : Nat := n * 2 ^ (64 - bl n) / 2 ^ (bl n - 64)
def mr64 (n : Nat) : Bool := decide (n % 2 ^ (bl n - 64) ≠ 0)
theorem hd64_b {n : Nat} (h : n ≠ 0) : 2 ^ 63 ≤ hd64 n ∧ hd64 n < 2 ^ 64 := by
  have h1 := lt_bl n
  have h2 := bl_le h
  have hp := bl_pos h
  unfold hd64
  by_cases c : bl n ≤ 64
  · have e1 : bl n - 64 = 0 := by omega
    rw [e1, Nat.pow_zero, Nat.div_one]
    have h3 : 2 ^ (bl n - 1) * 2 ^ (64 - bl n) ≤ n * 2 ^ (64 - bl n) := Nat.mul_le_mul_right _ h2
    have h4 : n * 2 ^ (64 - bl n) < 2 ^ bl n * 2 ^ (64 - bl n) := Nat.mul_lt_mul_of_pos_right h1 (pw_pos _)
    rw [← Nat.pow_add] at h3 h4
    rw [show bl n - 1 + (64 - bl n) = 63 by omega] at h3
    rw [show bl n + (64 - bl n) = 64 by omega] at h4
    exact ⟨h3, h4⟩
  · have e1 : 64 - bl n = 0 := by omega
    rw [e1, Nat.pow_zero, Nat.mul_one]
    constructor
    · rw [Nat.le_div_iff_mul_le (pw_pos _), ← Nat.pow_add, show 63 + (bl n - 64) = bl n - 1 by omega]; exact h2
    · rw [Nat.div_lt_iff_lt_mul (pw_pos _), ← Nat.pow_add, show 64 + (bl n - 64) = bl n by omega]; exact h1
theorem UP_R (m : Int) (s : Bool) {n : Nat} (hn : n ≠ 0) {e E : Int} (h : 1 ≤ E - (e + (bl n : Nat)) + 64) : UP m s (hd64 n) (e + (bl n : Nat)) (mr64 n) E = R m s n e E ∧ XP (hd64 n) (e + (bl n : Nat)) (mr64 n) E = exR n e E := by
  have hp := bl_pos hn
  generalize hd : (E - (e + (bl n : Nat)) + 64).toNat = d
  by_cases c : 64 ≤ bl n
  · have e1 : 64 - bl n = 0 := by omega
    have hH : hd64 n = n / 2 ^ (bl n - 64) := by unfold hd64; rw [e1, Nat.pow_zero, Nat.mul_one]
    have hsp : n = hd64 n * 2 ^ (bl n - 64) + n % 2 ^ (bl n - 64) := by
      rw [hH]
      have := Nat.div_add_mod n (2 ^ (bl n - 64))
      rw [Nat.mul_comm] at this
      exact this.symm
    have hr := Nat.mod_lt n (pw_pos (bl n - 64))
    have hk : (E - e).toNat = d + (bl n - 64) := by omega
    have hz : (e - E).toNat = 0 := by omega
    have st := rnd_sticky m s (H := hd64 n) (d := d) hr (by omega)
    have ex := ex_sticky (H := hd64 n) (d := d) hr
    rw [← hsp] at st ex
    unfold UP XP R exR mr64
    rw [hd, hk, hz, Nat.pow_zero, Nat.mul_one]
    exact ⟨st.symm, decide_eq_decide.2 ex.symm⟩
  · have e1 : bl n - 64 = 0 := by omega
    have hH : hd64 n = n * 2 ^ (64 - bl n) := by unfold hd64; rw [e1, Nat.pow_zero, Nat.div_one]
    have hm : mr64 n = false := by unfold mr64; rw [e1, Nat.pow_zero, Nat.mod_one]; rfl
    have hR := R_up m s n (e - (64 - bl n : Nat)) E (64 - bl n)
    have hX := exR_up n (e - (64 - bl n : Nat)) E (64 - bl n)
    rw [show e - ((64 - bl n : Nat) : Int) + ((64 - bl n : Nat) : Int) = e by omega, ← hH] at hR hX
    rw [← hR, ← hX, hm]
    unfold UP XP R exR bN
    rw [if_neg (by simp), Nat.add_zero, hd, show (e - ((64 - bl n : Nat) : Int) - E).toNat = 0 by omega, show (E - (e - ((64 - bl n : Nat) : Int))).toNat = d by omega, Nat.pow_zero, Nat.mul_one]
    have := rnd_up m s (hd64 n) d 1
    rw [Nat.pow_one, Nat.mul_comm] at this
    refine ⟨this, ?_⟩
    apply decide_eq_decide.2
    rw [Nat.pow_succ, Nat.mul_comm 2, Nat.mul_mod_mul_right]
    omega
end Go.Proofs.YtclegbgmhimenaaGreatDoor.Eng.K

/- Rounding, the program: units, the word, the flags. -/
set_option linter.unusedVariables false
set_option linter.unusedSimpArgs false
namespace Go.Proofs.YtclegbgmhimenaaGreatDoor.Eng.K
open Go.RowKit

theorem up_eq (m : Int) (s odd half more : Bool) : round_up.f m s odd half more = some (upB m s odd half more) := by
  unfold round_up.f upB
  by_cases c1 : m = 1
  · rw [if_pos c1, if_pos c1]; cases more <;> cases odd <;> cases half <;> rfl
  rw [if_neg c1, if_neg c1]
  by_cases c2 : m = 2
  · rw [if_pos c2, if_pos c2]
  rw [if_neg c2, if_neg c2]
  by_cases c4 : m = 4
  · rw [if_pos c4, if_pos c4]; cases s <;> cases half <;> cases more <;> rfl
  rw [if_neg c4, if_neg c4]
  by_cases c5 : m = 5
  · rw [if_pos c5, if_pos c5]; cases s <;> cases half <;> cases more <;> rfl
  · rw [if_neg c5, if_neg c5]
theorem btoi_eq (b : Bool) : round_btoi.f b = some (bN b : Int) := by cases b <;> rfl
theorem and1 (a : Nat) (ha : a < 18446744073709551616) : Go.bits .and .u64 (a : Int) 1 = ((a % 2 : Nat) : Int) := and_low a 1 ha (by omega)
theorem units_j2 (m : Int) (s : Bool) {W : Nat} (hW : W < 9223372036854775808) (half more : Bool) : Ev (fun k => round_part_units.j2 k m s (W : Int) half more) (((W + bN (upB m s (decide (W % 2 = 1)) half more) : Nat) : Int), !half && !more) := by
  have hb : bN (upB m s (decide (W % 2 = 1)) half more) ≤ 1 := by unfold bN; split <;> omega
  refine ev_step ?_
  simp only [round_part_units.j2]
  rw [and1 W (by omega)]
  have e1 : decide (((W % 2 : Nat) : Int) = 1) = decide (W % 2 = 1) := decide_eq_decide.2 (by omega)
  rw [e1]
  refine ev_bind (up_eq _ _ _ _ _) ?_; try dsimp only
  refine ev_bind (btoi_eq _) ?_; try dsimp only
  rw [← Int.natCast_add, u64_n (by omega)]
  cases half
  · exact ev_pos rfl (Ev.now _)
  · exact ev_neg (by simp) (Ev.now _)
/-- The bits about the unit. -/
theorem bits_about {H d : Nat} (b : Bool) (hd : 1 ≤ d) : (2 * H + bN b) / 2 ^ (d + 1) = H / 2 ^ d ∧
    decide (2 ^ (d + 1) ≤ 2 * ((2 * H + bN b) % 2 ^ (d + 1))) = decide (H / 2 ^ (d - 1) % 2 = 1) ∧
    decide (2 * ((2 * H + bN b) % 2 ^ (d + 1)) % 2 ^ (d + 1) ≠ 0) = (b || decide (H % 2 ^ (d - 1) ≠ 0)) ∧
    decide ((2 * H + bN b) % 2 ^ (d + 1) = 0) = (!decide (H / 2 ^ (d - 1) % 2 = 1) && !(b || decide (H % 2 ^ (d - 1) ≠ 0))) := by
  have hb : bN b < 2 ^ 1 := by unfold bN; split <;> omega
  have hb0 : bN b = 0 ↔ b = false := by unfold bN; cases b <;> simp
  have hb1 : bN b ≤ 1 := by unfold bN; split <;> omega
  obtain ⟨d', rfl⟩ : ∃ d', d = d' + 1 := ⟨d - 1, by omega⟩
  have hs := split_pow (H := H) (d := d' + 1) hb
  have e0 : H * 2 ^ 1 + bN b = 2 * H + bN b := by omega
  rw [e0] at hs
  have hm : H % 2 ^ (d' + 1) = H % 2 ^ d' + 2 ^ d' * (H / 2 ^ d' % 2) := by rw [Nat.pow_succ, Nat.mod_mul]
  have hl := Nat.mod_lt H (pw_pos d')
  have h2 : H / 2 ^ d' % 2 = 0 ∨ H / 2 ^ d' % 2 = 1 := by omega
  have hp : 2 ^ (d' + 1 + 1) = 4 * 2 ^ d' := by rw [Nat.pow_succ, Nat.pow_succ]; omega
  have hx : H % 2 ^ (d' + 1) * 2 ^ 1 + bN b < 4 * 2 ^ d' := by
    rw [hm]; rcases h2 with h | h <;> rw [h] <;> omega
  rw [hs.1, hs.2, hp]
  rw [show d' + 1 - 1 = d' from rfl]
  refine ⟨rfl, ?_, ?_, ?_⟩
  · apply decide_eq_decide.2
    rw [hm]; rcases h2 with h | h <;> rw [h] <;> constructor <;> intro h3 <;> omega
  · have e3 : (b || decide (H % 2 ^ d' ≠ 0)) = decide (¬ (bN b = 0 ∧ H % 2 ^ d' = 0)) := by
      by_cases c : H % 2 ^ d' = 0
      · cases b <;> simp [c, bN]
      · cases b <;> simp [c, bN]
    rw [e3]
    apply decide_eq_decide.2
    apply not_congr
    rw [dbl_mod hx, hm]
    rcases h2 with h | h <;> rw [h] <;> constructor
    · rintro (h3 | h3) <;> omega
    · rintro ⟨h3, h4⟩; left; omega
    · rintro (h3 | h3) <;> omega
    · rintro ⟨h3, h4⟩; right; omega
  · have e3 : (!decide (H / 2 ^ d' % 2 = 1) && !(b || decide (H % 2 ^ d' ≠ 0))) = decide (¬ (H / 2 ^ d' % 2 = 1) ∧ (bN b = 0 ∧ H % 2 ^ d' = 0)) := by
      by_cases c : H % 2 ^ d' = 0
      · rcases h2 with h | h <;> cases b <;> simp [c, h, bN]
      · rcases h2 with h | h <;> cases b <;> simp [c, h, bN]
    rw [e3]
    apply decide_eq_decide.2
    rw [hm]
    rcases h2 with h | h <;> rw [h] <;> constructor <;> intro h3 <;> omega
theorem units_ev (m : Int) (s : Bool) {H : Nat} (hH : 2 ^ 63 ≤ H ∧ H < 2 ^ 64) {T E : Int} (b : Bool) (hd : 1 ≤ E - T + 64) (h1 : -1000000000 ≤ T) (h2 : T ≤ 1000000000) (h3 : -1000000000 ≤ E) (h4 : E ≤ 1000000000) :
    Ev (fun k => round_part_units.f k (H : Int) T b m s E) ((UP m s H T b E : Int), XP H T b E) := by
  have ew : wrap64 (wrap64 (E - T) + 64) = E - T + 64 := by unfold wrap64; omega
  unfold round_part_units.f
  rw [ew]
  clear ew
  obtain ⟨d, hdd⟩ := Int.eq_ofNat_of_zero_le (show 0 ≤ E - T + 64 by omega)
  have hdn : (E - T + 64).toNat = d := by omega
  unfold UP XP
  rw [hdn, hdd]
  rw [hdd] at hd
  clear hdn hdd
  have hd1 : 1 ≤ d := by omega
  have hbb : bN b ≤ 1 := by unfold bN; split <;> omega
  by_cases c : d > 64
  · have hp : 2 ^ 66 ≤ 2 ^ (d + 1) := Nat.pow_le_pow_right (by omega) (by omega)
    have e1 : rnd m s (2 * H + bN b) (d + 1) = bN (upB m s false false true) := by
      unfold rnd
      rw [Nat.div_eq_of_lt (by omega), Nat.mod_eq_of_lt (a := 2 * H + bN b) (by omega), Nat.mod_eq_of_lt (a := 2 * (2 * H + bN b)) (by omega)]
      rw [decide_eq_false (by omega : ¬ (0 % 2 = 1)), decide_eq_false (by omega : ¬ (2 ^ (d + 1) ≤ 2 * (2 * H + bN b))), decide_eq_true (by omega : 2 * (2 * H + bN b) ≠ 0), Nat.zero_add]
      rfl
    have e2 : decide ((2 * H + bN b) % 2 ^ (d + 1) = 0) = false := decide_eq_false (by rw [Nat.mod_eq_of_lt (by omega)]; omega)
    rw [e1, e2]
    refine ev_pos (by omega) ?_
    refine ev_bind (up_eq _ _ _ _ _) ?_; try dsimp only
    refine ev_bind (btoi_eq _) ?_; try dsimp only
    exact Ev.now _
  refine ev_neg (by omega) ?_
  obtain ⟨a1, a2, a3, a4⟩ := bits_about (H := H) b hd1
  have e1 : rnd m s (2 * H + bN b) (d + 1) = H / 2 ^ d + bN (upB m s (decide (H / 2 ^ d % 2 = 1)) (decide (H / 2 ^ (d - 1) % 2 = 1)) (b || decide (H % 2 ^ (d - 1) ≠ 0))) := by
    unfold rnd
    rw [a1, a2, a3]; rfl
  rw [e1, a4]
  clear a1 a2 a3 a4 e1
  have hW : H / 2 ^ d < 9223372036854775808 := by
    rw [Nat.div_lt_iff_lt_mul (pw_pos d)]
    have : 2 ^ 1 ≤ 2 ^ d := Nat.pow_le_pow_right (by omega) hd1
    have := Nat.mul_le_mul_left 9223372036854775808 this
    omega
  have last : Ev (fun k => round_part_units.j1 k m s (H : Int) T b (d : Int) ((H / 2 ^ d : Nat) : Int) false b) (((H / 2 ^ d + bN (upB m s (decide (H / 2 ^ d % 2 = 1)) (decide (H / 2 ^ (d - 1) % 2 = 1)) (b || decide (H % 2 ^ (d - 1) ≠ 0))) : Nat) : Int), (!decide (H / 2 ^ (d - 1) % 2 = 1) && !(b || decide (H % 2 ^ (d - 1) ≠ 0)))) := by
    have ew : wrap64 ((d : Int) - 1) = ((d - 1 : Nat) : Int) := by unfold wrap64; omega
    have hp64 : 2 ^ (d - 1) ≤ 2 ^ 63 := Nat.pow_le_pow_right (by omega) (by omega)
    have hpp := pw_pos (d - 1)
    have hq : H / 2 ^ (d - 1) ≤ H := Nat.div_le_self _ _
    refine ev_step ?_
    simp only [round_part_units.j1]
    rw [ew]
    clear ew
    rw [shr_n H (d - 1) (by show d - 1 ≤ 64; omega), and1 _ (by omega)]
    have e2 : decide (((H / 2 ^ (d - 1) % 2 : Nat) : Int) = 1) = decide (H / 2 ^ (d - 1) % 2 = 1) := decide_eq_decide.2 (by omega)
    have e3 : shl .u64 1 ((d - 1 : Nat) : Int) = ((2 ^ (d - 1) : Nat) : Int) := by
      have := shl_u64 (X := 1) (s := d - 1) (by omega) (by omega)
      rw [Nat.one_mul] at this
      exact this
    have e4 : IntKind.u64.wrap (((2 ^ (d - 1) : Nat) : Int) - 1) = ((2 ^ (d - 1) - 1 : Nat) : Int) := by
      rw [show ((2 ^ (d - 1) : Nat) : Int) - 1 = ((2 ^ (d - 1) - 1 : Nat) : Int) by omega]
      exact u64_n (by omega)
    have e5 : decide (¬ (((H % 2 ^ (d - 1) : Nat) : Int) = 0)) = decide (H % 2 ^ (d - 1) ≠ 0) := decide_eq_decide.2 (by omega)
    rw [e2, e3, e4, and_low H (d - 1) (by omega) (by omega), e5]
    refine ev_pos (by omega) (ev_pos (by omega) ?_)
    cases b
    · refine ev_neg (by simp) (ev_pos (by omega) ?_)
      exact units_j2 m s hW _ _
    · refine ev_pos rfl ?_
      exact units_j2 m s hW _ _
  by_cases c2 : d < 64
  · refine ev_pos (by omega) (ev_pos (by omega) ?_)
    rw [shr_n H d (by show d ≤ 64; omega)]
    exact last
  · have hd64 : d = 64 := by omega
    have e0 : H / 2 ^ d = 0 := Nat.div_eq_of_lt (by rw [hd64]; exact hH.2)
    refine ev_neg (by omega) ?_
    rw [e0] at last ⊢
    exact last
/-! ### the word -/
/-- What rounding comes to, of a top and of what is taken in each unit. -/
def roundG (f m : Int) (s : Bool) (T : Int) (U : Int → Nat) (X : Int → Bool) : Int × Int :=
  if (bl (U (max (T - (pr f : Nat)) (lo f))) : Int) + max (T - (pr f : Nat)) (lo f) > wd f then ((overW f m s : Int), 20)
  else ((((if U (max (T - (pr f : Nat)) (lo f)) = 0 then 0 else encN f (U (max (T - (pr f : Nat)) (lo f))) (max (T - (pr f : Nat)) (lo f))) + sgn f s : Nat) : Int),
    if X (max (T - (pr f : Nat)) (lo f)) = true then 0
    else if (bl (U (T - (pr f : Nat))) : Int) + (T - (pr f : Nat)) < lo f + (pr f : Nat) then 24 else 16)
theorem roundG_S (f m : Int) (s : Bool) (n : Nat) (e : Int) : roundG f m s (e + (bl n : Nat)) (R m s n e) (exR n e) = roundS f m s n e := rfl
theorem roundG_congr {f m : Int} {s : Bool} {T : Int} {U U' : Int → Nat} {X X' : Int → Bool} (h : ∀ E, T - (pr f : Nat) ≤ E → U E = U' E ∧ X E = X' E) : roundG f m s T U X = roundG f m s T U' X' := by
  unfold roundG
  rw [(h (max (T - (pr f : Nat)) (lo f)) (by omega)).1, (h (max (T - (pr f : Nat)) (lo f)) (by omega)).2, (h (T - (pr f : Nat)) (by omega)).1]
theorem formOf_eq {f : Int} (h : isF f) : round_formOf.f f = some ((pr f : Int), lo f, wd f, true) := by rcases h with rfl | rfl <;> rfl
theorem formOf_bad {f : Int} (h : ¬ isF f) : round_formOf.f f = some (0, 0, 0, false) := by
  unfold round_formOf.f
  rw [if_neg (fun e => h (.inl e)), if_neg (fun e => h (.inr e))]
/-- The error of a format or a mode that is none. -/
def fmE (f m : Int) : Int := if isF f then (if isM m then 0 else 5) else 4
theorem open_good {f m : Int} (h : isF f) (hm : isM m) : Ev (fun k => round_open.f k f m []) ((pr f : Int), lo f, wd f, 0) := by
  unfold round_open.f
  unfold isM at hm
  refine ev_bind (formOf_eq h) ?_; try dsimp only
  refine ev_neg (by simp) (ev_neg (by omega) (ev_neg (by omega) ?_))
  refine ev_step ?_
  simp only [round_open.l0]
  exact ev_neg (by simp) (Ev.now _)
theorem open_bad {f m : Int} (h : fmE f m ≠ 0) : ∃ r : Int × Int × Int × Int, r.2.2.2 = fmE f m ∧ Ev (fun k => round_open.f k f m []) r ∧ ∀ d, Ev (fun k => round_open.f k f m [d]) r := by
  unfold fmE at *
  by_cases c : isF f
  · rw [if_pos c] at h ⊢
    by_cases hm : isM m
    · rw [if_pos hm] at h; exact absurd rfl h
    · rw [if_neg hm]
      unfold isM at hm
      have : ∀ l, Ev (fun k => round_open.f k f m l) ((pr f : Int), lo f, wd f, 5) := by
        intro l
        unfold round_open.f
        refine ev_bind (formOf_eq c) ?_; try dsimp only
        refine ev_neg (by simp) ?_
        by_cases c : m < 1
        · exact ev_pos c (Ev.now _)
        · exact ev_neg c (ev_pos (by omega) (Ev.now _))
      exact ⟨((pr f : Int), lo f, wd f, 5), rfl, this _, fun d => this _⟩
  · rw [if_neg c]
    have : ∀ l, Ev (fun k => round_open.f k f m l) (0, 0, 0, 4) := by
      intro l
      unfold round_open.f
      refine ev_bind (formOf_bad c) ?_; try dsimp only
      exact ev_pos (by simp) (Ev.now _)
    exact ⟨(0, 0, 0, 4), rfl, this _, fun d => this _⟩
theorem open_one {f m : Int} (h : isF f) (hm : isM m) {s : Bool} {l : List Int} {e : Int} (hd : My s l e) : Ev (fun k => round_open.f k f m [(s, l, e)]) ((pr f : Int), lo f, wd f, 0) := by
  unfold round_open.f
  unfold isM at hm
  refine ev_bind (formOf_eq h) ?_; try dsimp only
  refine ev_neg (by simp) (ev_neg (by omega) (ev_neg (by omega) ?_))
  have e1 : wrap64 (0 + 1) = 1 := by rw [w64n (by omega) (by omega)]; rfl
  have el : (([(s, l, e)] : List (Bool × List Int × Int)).length : Int) = 1 := rfl
  have r0 : rdT [.b, .is .u32, .i .i64] [(s, l, e)] 0 = (s, l, e) := rfl
  refine ev_step ?_
  simp only [round_open.l0, el, e1, r0]
  clear e1
  refine ev_pos (by omega) (ev_pos (by omega) (ev_pos (by omega) ?_))
  refine ev_bind (dyad_May_true hd) ?_; try dsimp only
  refine ev_neg (by simp) (ev_step ?_)
  simp only [round_open.l0]
  exact ev_neg (by omega) (Ev.now _)
theorem Over_j1 {f : Int} (h : isF f) (s b : Bool) : Ev (fun k => round_Over.j1 k f s b) ((((if b = true then mo f * 2 ^ fb f - 1 else mo f * 2 ^ fb f) + sgn f s : Nat) : Int), 0) := by
  refine ev_step ?_
  simp only [round_Over.j1]
  cases b
  · refine ev_neg (by simp) ?_
    refine Ev.bind (word_Inf_ev h s) ?_; try dsimp only
    exact Ev.now _
  · refine ev_pos rfl ?_
    refine Ev.bind (word_Greatest_ev h s) ?_; try dsimp only
    exact Ev.now _
theorem Over_ev {f m : Int} (h : isF f) (hm : isM m) (s : Bool) : Ev (fun k => round_Over.f k f m s) ((overW f m s : Int), 0) := by
  have j := fun b => Over_j1 h s b
  unfold round_Over.f overW
  refine Ev.bind (open_good h hm) ?_; try dsimp only
  refine ev_neg (by simp) ?_
  by_cases c3 : m = 3
  · refine ev_pos c3 ?_
    have e : inw m s = true := by unfold inw; simp [c3]
    rw [e]; exact j true
  refine ev_neg c3 ?_
  by_cases c4 : m = 4
  · refine ev_pos c4 ?_
    have e : inw m s = s := by unfold inw; simp [c4]
    rw [e]
    cases s
    · exact ev_neg (by simp) (ev_neg (by omega) (j false))
    · exact ev_pos rfl (j true)
  refine ev_neg c4 ?_
  by_cases c5 : m = 5
  · refine ev_pos c5 ?_
    have e : inw m s = !s := by unfold inw; simp [c5]
    rw [e]; exact j (!s)
  · refine ev_neg c5 ?_
    have e : inw m s = false := by unfold inw; simp [c3, c4, c5]
    rw [e]; exact j false
theorem Over_bad {f m : Int} (h : fmE f m ≠ 0) (s : Bool) : Ev (fun k => round_Over.f k f m s) (0, fmE f m) := by
  obtain ⟨r, hr, ho, _⟩ := open_bad h
  unfold round_Over.f
  refine Ev.bind (ho) ?_; try dsimp only
  rw [hr]
  exact ev_pos h (Ev.now _)
end Go.Proofs.YtclegbgmhimenaaGreatDoor.Eng.K

/- Rounding, the program: a number as a word. -/
set_option linter.unusedVariables false
set_option linter.unusedSimpArgs false
namespace Go.Proofs.YtclegbgmhimenaaGreatDoor.Eng.K
open Go.RowKit

theorem word_Of_zero {f : Int} (h : isF f) : Ev (fun k => word_Of.f k f false [] 0) (0, 0) := by
  have hm : My false [] 0 := ⟨⟨Nm_nil, fun _ => ⟨rfl, rfl⟩, fun h => absurd rfl h⟩, by simp, by omega, by omega⟩
  have hn := nat_Num_ev Dg.nil (by simp)
  have e1 : numB [] = true := numB_small Nm_nil (by simp)
  rw [e1, if_pos rfl] at hn
  have hl := len64_ev (x := 0) (by omega)
  have b0 : bl (Int.toNat 0) = 0 := bl_zero
  rw [b0] at hl
  have hfb := fb_le h
  have w1 : wrap64 ((fb f : Int) + 1) = (fb f : Int) + 1 := by unfold wrap64; omega
  unfold word_Of.f
  refine Ev.bind (word_open_nil h) ?_; try dsimp only
  refine ev_neg (fun h => h rfl) ?_
  refine ev_bind (dyad_May_true hm) ?_; try dsimp only
  refine ev_neg (by simp) ?_
  refine Ev.bind (hn) ?_; try dsimp only
  refine Ev.bind (hl) ?_; try dsimp only
  rw [w1]
  clear w1
  refine ev_neg (by simp) (ev_neg (by omega) (ev_neg (by simp) ?_))
  exact ev_pos rfl (Ev.now _)
theorem UP_le {m : Int} {s : Bool} {H : Nat} (hH : H < 2 ^ 64) {T E : Int} {b : Bool} {p : Nat} (hp : p ≤ 64) (h : T - (p : Nat) ≤ E) : UP m s H T b E ≤ 2 ^ p := by
  have hb : bN b ≤ 1 := by unfold bN; split <;> omega
  have h1 : (2 * H + bN b) / 2 ^ ((E - T + 64).toNat + 1) < 2 ^ p := by
    rw [Nat.div_lt_iff_lt_mul (pw_pos _), ← Nat.pow_add]
    have : 2 ^ 65 ≤ 2 ^ (p + ((E - T + 64).toNat + 1)) := Nat.pow_le_pow_right (by omega) (by omega)
    omega
  unfold UP rnd
  split <;> omega
theorem word_of_size {f : Int} (h : isF f) (s : Bool) {q : Nat} {E : Int} (hq : q ≤ 2 ^ pr f) (hE : lo f ≤ E) (hw : (bl q : Int) + E ≤ wd f) (h0 : q ≠ 0) : Ev (fun k => word_Of.f k f (mk (sv s q) E).1 (mk (sv s q) E).2.1 (mk (sv s q) E).2.2) (((encN f q E + sgn f s : Nat) : Int), 0) := by
  have hpr := pr_eq h
  have hfb := fb_le h
  have hl := lo_b h
  have hwb := wd_b h
  have h2 := (odd_bl h0 hq).resolve_right (by omega)
  have h3 := top_lw h0
  have hdy := Dy_mk (sv s q) E
  rw [mk_sv s h0] at hdy ⊢
  have hne : D (q / 2 ^ lw q) ≠ [] := by
    intro hc
    have h1 : V (D (q / 2 ^ lw q)) = 0 := by rw [hc]; rfl
    rw [V_D] at h1
    rw [h1, bl_zero] at h3
    have := lw_lt h0
    omega
  have hmy : My s (D (q / 2 ^ lw q)) (E + (lw q : Nat)) := ⟨hdy, len_bl (by omega), by omega, by omega⟩
  have := word_Of_ev h hmy hne (by rw [V_D]; exact h2) (by omega) (by rw [V_D]; omega)
  rw [V_D] at this
  exact this
theorem part_j1 {f m : Int} (h : isF f) (s : Bool) {H : Nat} (hH : 2 ^ 63 ≤ H ∧ H < 2 ^ 64) {T : Int} (b : Bool) (h1 : -100000000 ≤ T) (h2 : T ≤ 100000000) (x : Bool) (w : Int) :
    Ev (fun k => round_part_word.j1 k m s (H : Int) T b (pr f : Int) (lo f) (wd f) x w) (w, if x = true then 0 else if (bl (UP m s H T b (T - (pr f : Nat))) : Int) + (T - (pr f : Nat)) < lo f + (pr f : Nat) then 24 else 16) := by
  have hpr := pr_eq h
  have hfb := fb_le h
  have hl := lo_b h
  have hu := units_ev m s hH (T := T) (E := T - (pr f : Nat)) b (by omega) (by omega) (by omega) (by omega) (by omega)
  have hle := UP_le (m := m) (s := s) (H := H) (b := b) hH.2 (T := T) (E := T - (pr f : Nat)) (p := pr f) (by omega) (Int.le_refl _)
  have h2f := two_fb h
  have hlen := len64_ev (x := (UP m s H T b (T - (pr f : Nat)) : Int)) ⟨by omega, by omega⟩
  rw [Int.toNat_natCast] at hlen
  have hb : bl (UP m s H T b (T - (pr f : Nat))) ≤ 64 := bl_le_of_lt (by omega)
  refine ev_step ?_
  simp only [round_part_word.j1]
  cases x
  · refine ev_neg (by simp) ?_
    have w0 : wrap64 (T - ((pr f : Nat) : Int)) = T - ((pr f : Nat) : Int) := by unfold wrap64; omega
    rw [w0]
    clear w0
    refine Ev.bind (hu) ?_; try dsimp only
    refine Ev.bind (hlen) ?_; try dsimp only
    have w1 : wrap64 (wrap64 ((bl (UP m s H T b (T - (pr f : Nat))) : Int) + T) - ((pr f : Nat) : Int)) = (bl (UP m s H T b (T - (pr f : Nat))) : Int) + (T - (pr f : Nat)) := by unfold wrap64; omega
    have w2 : wrap64 (lo f + ((pr f : Nat) : Int)) = lo f + ((pr f : Nat) : Int) := by clear w1; unfold wrap64; omega
    rw [w1, w2]
    clear w1 w2
    rw [if_neg Bool.false_ne_true]
    by_cases c : (bl (UP m s H T b (T - (pr f : Nat))) : Int) + (T - (pr f : Nat)) < lo f + (pr f : Nat)
    · exact ev_pos c (ev_eq (Ev.now _) (by rw [if_pos c]))
    · exact ev_neg c (ev_eq (Ev.now _) (by rw [if_neg c]))
  · exact ev_pos rfl (Ev.now _)
theorem part_word_ev {f m : Int} (h : isF f) (hm : isM m) (s : Bool) {H : Nat} (hH : 2 ^ 63 ≤ H ∧ H < 2 ^ 64) {T : Int} (b : Bool) (h1 : -100000000 ≤ T) (h2 : T ≤ 100000000) :
    Ev (fun k => round_part_word.f k (H : Int) T b f (pr f : Int) (lo f) (wd f) m s) (roundG f m s T (UP m s H T b) (XP H T b)) := by
  have hpr := pr_eq h
  have hfb := fb_le h
  have hl := lo_b h
  have hwb := wd_b h
  have h2f := two_fb h
  obtain ⟨E, hE⟩ : ∃ E, E = max (T - (pr f : Nat)) (lo f) := ⟨_, rfl⟩
  have hu := units_ev m s hH (T := T) (E := E) b (by omega) (by omega) (by omega) (by omega) (by omega)
  have hle := UP_le (m := m) (s := s) (H := H) (b := b) hH.2 (T := T) (E := E) (p := pr f) (by omega) (by omega)
  have hlen := len64_ev (x := (UP m s H T b E : Int)) ⟨by omega, by omega⟩
  rw [Int.toNat_natCast] at hlen
  have hb : bl (UP m s H T b E) ≤ 64 := bl_le_of_lt (by omega)
  have ho := nat_Of_ev (n := (UP m s H T b E : Int)) (by omega) (by omega)
  rw [Int.toNat_natCast] at ho
  have hj := part_j1 (m := m) h s hH (T := T) b h1 h2 (XP H T b E)
  have hwos := word_of_size h s (q := UP m s H T b E) (E := E) hle (by omega)
  have em : mx (wrap64 (T - ((pr f : Nat) : Int))) (lo f) = E := by rw [mx_eq, wsubx (by omega) (by omega) (by omega) (by omega), hE]
  unfold round_part_word.f roundG
  rw [em, ← hE]
  clear em
  refine Ev.bind (hu) ?_; try dsimp only
  refine Ev.bind (hlen) ?_; try dsimp only
  have w1 : wrap64 ((bl (UP m s H T b E) : Int) + E) = (bl (UP m s H T b E) : Int) + E := waddx (by omega) (by omega) (by omega) (by omega)
  rw [w1]
  clear w1
  by_cases c : (bl (UP m s H T b E) : Int) + E > wd f
  · rw [if_pos c]
    refine ev_pos c ?_
    refine Ev.bind (Over_ev h hm s) ?_; try dsimp only
    exact Ev.now _
  rw [if_neg c]
  refine ev_neg c ?_
  refine Ev.bind (ho) ?_; try dsimp only
  have m1 := dyad_Make_ev s (Nm_D (UP m s H T b E)) (len_bl (by omega)) E
  rw [V_D, makeR_ok3 (by omega) (by omega)] at m1
  refine Ev.bind (m1) ?_; try dsimp only
  by_cases c0 : UP m s H T b E = 0
  · have hz := word_Of_zero h
    rw [if_pos c0]
    rw [c0, sv_zero, mk_zero]
    refine Ev.bind (hz) ?_; try dsimp only
    refine ev_pos rfl ?_
    refine Ev.bind (word_Zero_ev h s) ?_; try dsimp only
    rw [Nat.zero_add]
    exact hj _
  · rw [if_neg c0]
    refine Ev.bind (hwos (by omega) c0) ?_; try dsimp only
    refine ev_neg (by omega) ?_
    exact hj _
theorem partOf_ev {s : Bool} {l : List Int} {e : Int} (hd : My s l e) (h0 : V l ≠ 0) : Ev (fun k => round_partOf.f k s l e) ((hd64 (V l) : Int), e + (bl (V l) : Nat), mr64 (V l)) := by
  have hlen := hd.len
  have hb := bl_list hd.dy.nm.dg
  have hlo := hd.lo
  have hhi := hd.hi
  have hH := hd64_b h0
  unfold round_partOf.f
  refine Ev.bind (nat_Len_ev hd.dy.nm hlen) ?_; try dsimp only
  have w1 : wrap64 (e + ((bl (V l) : Nat) : Int)) = e + ((bl (V l) : Nat) : Int) := waddx (by omega) (by omega) (by omega) (by omega)
  have w2 : wrap64 (64 - ((bl (V l) : Nat) : Int)) = 64 - ((bl (V l) : Nat) : Int) := by clear w1; unfold wrap64; omega
  rw [w1, w2]
  clear w1 w2
  have hs := nat_Shift_ev hd.dy.nm hlen (64 - ((bl (V l) : Nat) : Int))
  have es : shiftR (V l) (64 - ((bl (V l) : Nat) : Int)) = (D (hd64 (V l)), mr64 (V l), 0) := by
    by_cases c : bl (V l) ≤ 64
    · have e1 : 64 - ((bl (V l) : Nat) : Int) = ((64 - bl (V l) : Nat) : Int) := by omega
      have e2 : bl (V l) - 64 = 0 := by omega
      rw [e1, shiftR_up (by omega)]
      unfold hd64 mr64
      rw [e2, Nat.pow_zero, Nat.div_one, Nat.mod_one]; rfl
    · have e1 : 64 - ((bl (V l) : Nat) : Int) = -((bl (V l) - 64 : Nat) : Int) := by omega
      have e2 : 64 - bl (V l) = 0 := by omega
      rw [e1, shiftR_down (by omega) (by omega)]
      unfold hd64 mr64
      rw [e2, Nat.pow_zero, Nat.mul_one]
  rw [es] at hs
  refine Ev.bind (hs) ?_; try dsimp only
  have hl2 : (D (hd64 (V l))).length ≤ 2 := D_lt (by omega)
  have hn := nat_Num_ev (Dg_D (hd64 (V l))) (by omega)
  rw [numB_small (Nm_D _) (by rw [V_D]; omega), if_pos rfl, V_D] at hn
  refine Ev.bind (hn) ?_; try dsimp only
  exact Ev.now _
theorem Round_ev {f m : Int} (h : isF f) (hm : isM m) {s : Bool} {l : List Int} {e : Int} (hd : My s l e) (h0 : V l ≠ 0) : Ev (fun k => round_Round.f k f m s l e) ((roundS f m s (V l) e).1, (roundS f m s (V l) e).2, 0) := by
  have hb := bl_list hd.dy.nm.dg
  have hlen := hd.len
  have hlo := hd.lo
  have hhi := hd.hi
  have hpr := pr_eq h
  have hfb := fb_le h
  have hp := part_word_ev h hm s (hd64_b h0) (T := e + (bl (V l) : Nat)) (mr64 (V l)) (by omega) (by omega)
  have hg : roundG f m s (e + (bl (V l) : Nat)) (UP m s (hd64 (V l)) (e + (bl (V l) : Nat)) (mr64 (V l))) (XP (hd64 (V l)) (e + (bl (V l) : Nat)) (mr64 (V l))) = roundS f m s (V l) e := by
    rw [← roundG_S]
    refine roundG_congr ?_
    intro E hE
    exact UP_R m s h0 (by omega)
  rw [hg] at hp
  unfold round_Round.f
  refine Ev.bind (open_one h hm hd) ?_; try dsimp only
  refine ev_neg (by simp) ?_
  refine Ev.bind (dyad_Sign_ev hd) ?_; try dsimp only
  refine ev_neg (by rw [sv_sign h0]; split <;> omega) ?_
  refine Ev.bind (partOf_ev hd h0) ?_; try dsimp only
  refine Ev.bind (hp) ?_; try dsimp only
  exact Ev.now _
end Go.Proofs.YtclegbgmhimenaaGreatDoor.Eng.K

/- Words of one format as words of another; what is asked ahead. -/
set_option linter.unusedVariables false
set_option linter.unusedSimpArgs false
namespace Go.Proofs.YtclegbgmhimenaaGreatDoor.Eng.K
open Go.RowKit

theorem roundS_up (f m : Int) (s : Bool) {n : Nat} (hn : n ≠ 0) (e : Int) (j : Nat) : roundS f m s (n * 2 ^ j) e = roundS f m s n (e + j) := by
  have hu : unitR f (n * 2 ^ j) e = unitR f n (e + j) := by unfold unitR; rw [bl_up hn]; congr 1; omega
  have hb : e + (bl (n * 2 ^ j) : Nat) - (pr f : Nat) = e + j + (bl n : Nat) - (pr f : Nat) := by rw [bl_up hn]; omega
  unfold roundS
  simp only [hu, hb, R_up, exR_up]
theorem roundS_mk (f m : Int) {z : Int} (hz : z ≠ 0) (e : Int) : roundS f m (mk z e).1 (V (mk z e).2.1) (mk z e).2.2 = roundS f m (decide (z < 0)) z.natAbs e := by
  have hza : z.natAbs ≠ 0 := by omega
  obtain ⟨q, hq⟩ := lw_is hza
  have hd : z.natAbs / 2 ^ lw z.natAbs = 2 * q + 1 := by
    have : z.natAbs / 2 ^ lw z.natAbs = 2 ^ lw z.natAbs * (2 * q + 1) / 2 ^ lw z.natAbs := by rw [← hq]
    rw [this, Nat.mul_div_cancel_left _ (pw_pos _)]
  unfold mk
  rw [if_neg hz]
  show roundS f m (decide (z < 0)) (V (D (z.natAbs / 2 ^ lw z.natAbs))) (e + (lw z.natAbs : Nat)) = _
  rw [V_D, ← roundS_up f m _ (by rw [hd]; omega), hd]
  congr 1
  rw [Nat.mul_comm]; exact hq.symm
/-- Not too long, not too far out, for the program. -/
structure Mg (z e : Int) : Prop where
  b : bl z.natAbs ≤ 131072
  lo : -16777216 ≤ e
  hi : e + (bl z.natAbs : Nat) ≤ 16777216
theorem my_of {z e : Int} (h : Mg z e) : My (mk z e).1 (mk z e).2.1 (mk z e).2.2 := My_mk h.lo h.hi h.b
theorem V_mk_ne {z : Int} (hz : z ≠ 0) (e : Int) : V (mk z e).2.1 ≠ 0 := by
  have := mz_ne hz e
  intro h
  unfold mz at this
  rw [h, sv_zero] at this
  exact this rfl
theorem Round_mk {f m : Int} (h : isF f) (hm : isM m) {z e : Int} (hz : z ≠ 0) (hg : Mg z e) : Ev (fun k => round_Round.f k f m (mk z e).1 (mk z e).2.1 (mk z e).2.2) ((roundS f m (decide (z < 0)) z.natAbs e).1, (roundS f m (decide (z < 0)) z.natAbs e).2, 0) := by
  have := Round_ev h hm (my_of hg) (V_mk_ne hz e)
  rw [roundS_mk f m hz e] at this
  exact this
/-! ### words that are numbers -/
theorem cls_num {f : Int} (h : isF f) {w : Nat} (h1 : cls f w ≠ 1) (h2 : cls f w < 4) : wmag f w ≠ 0 := by
  rw [cls_eq h] at h1 h2
  have hp := pw_pos (fb f)
  unfold wmag
  by_cases c : wexpo f w = 0
  · rw [if_pos c] at h1 h2 ⊢
    intro h3
    rw [if_pos h3] at h1
    exact h1 rfl
  · rw [if_neg c]; omega
theorem cls_b {f : Int} (h : isF f) (w : Nat) : 1 ≤ cls f w ∧ cls f w ≤ 5 := by
  rw [cls_eq h]; split
  · split <;> omega
  · split
    · omega
    · split <;> omega
theorem wmag_bl {f : Int} (h : isF f) (w : Nat) : bl (wmag f w) ≤ pr f := by
  have h1 := wfrac_lt f w
  have h2 := pr_eq h
  refine bl_le_of_lt ?_
  rw [h2, Nat.pow_succ]
  unfold wmag; split <;> omega
theorem w_sv {s : Bool} {n : Nat} (h : n ≠ 0) : decide (sv s n < 0) = s ∧ (sv s n).natAbs = n ∧ sv s n ≠ 0 := ⟨sv_neg h, sv_abs s n, fun h2 => h (sv_eq_zero.1 h2)⟩
theorem w_mg {f : Int} (h : isF f) (w : Nat) : Mg (sv (wneg f w) (wmag f w)) (wex f w) := by
  have h1 := wmag_bl h w
  have h2 := wex_b h w
  have h3 := pr_eq h
  have h4 := fb_le h
  refine ⟨by rw [sv_abs]; omega, by omega, by rw [sv_abs]; omega⟩
/-! ### errors ahead -/
theorem mode_ev (f m : Int) : Ev (fun k => conv_mode.f k f m) (fmE f m) := by
  unfold conv_mode.f
  by_cases h : fmE f m = 0
  · have hf : isF f := by unfold fmE at h; split at h; · assumption
                          · omega
    have hm : isM m := by unfold fmE at h; rw [if_pos hf] at h; split at h; · assumption
                          · omega
    refine Ev.bind (Over_ev hf hm false) ?_; try dsimp only
    exact ev_eq (Ev.now _) h.symm
  · refine Ev.bind (Over_bad h false) ?_; try dsimp only
    exact Ev.now _
theorem fmE_zero {f m : Int} : fmE f m = 0 ↔ isF f ∧ isM m := by
  unfold fmE
  by_cases h : isF f
  · rw [if_pos h]
    by_cases hm : isM m
    · rw [if_pos hm]; exact ⟨fun _ => ⟨h, hm⟩, fun _ => rfl⟩
    · rw [if_neg hm]; exact ⟨fun h => by omega, fun h => absurd h.2 hm⟩
  · rw [if_neg h]; exact ⟨fun h => by omega, fun k => absurd k.1 h⟩
/-- The error of a format, a mode, a word. -/
def opE (f m : Int) (w : Nat) : Int := if fmE f m ≠ 0 then fmE f m else goodE f w
theorem word_Class_bad {f : Int} (h : isF f) {w : Nat} (hw : ¬ w < 2 * sg f) : Ev (fun k => word_Class.f k f (w : Int)) (0, 6) := by
  have ho := word_open_one h w
  unfold goodE at ho
  rw [if_neg hw] at ho
  unfold word_Class.f
  refine Ev.bind (ho) ?_; try dsimp only
  exact ev_pos (by simp) (Ev.now _)
theorem word_Split_bad {f : Int} (h : isF f) {w : Nat} (hw : ¬ w < 2 * sg f) : Ev (fun k => word_Split.f k f (w : Int)) (false, 0, 0, 6) := by
  have ho := word_open_one h w
  unfold goodE at ho
  rw [if_neg hw] at ho
  unfold word_Split.f
  refine Ev.bind (ho) ?_; try dsimp only
  exact ev_pos (by simp) (Ev.now _)
theorem conv_open_good {f m : Int} (h : isF f) (hm : isM m) {w : Nat} (hw : w < 2 * sg f) : Ev (fun k => conv_open.f k f m (w : Int)) (cls f w, wneg f w, 0) := by
  unfold conv_open.f
  have he := mode_ev f m
  rw [fmE_zero.2 ⟨h, hm⟩] at he
  refine Ev.bind (he) ?_; try dsimp only
  refine ev_neg (by simp) ?_
  refine Ev.bind (word_Class_ev h hw) ?_; try dsimp only
  refine Ev.bind (word_Split_ev h hw) ?_; try dsimp only
  exact Ev.now _
theorem conv_open_bad {f m : Int} {w : Nat} (hw : opE f m w ≠ 0) : Ev (fun k => conv_open.f k f m (w : Int)) (0, false, opE f m w) := by
  unfold conv_open.f
  have he := mode_ev f m
  unfold opE at *
  refine Ev.bind (he) ?_; try dsimp only
  by_cases c : fmE f m = 0
  · obtain ⟨h, hm⟩ := fmE_zero.1 c
    rw [if_neg (fun h => h c)] at hw ⊢
    have hw2 : ¬ w < 2 * sg f := fun h2 => hw (by unfold goodE; rw [if_pos h2])
    refine ev_neg (fun h => h c) ?_
    refine Ev.bind (word_Class_bad h hw2) ?_; try dsimp only
    refine Ev.bind (word_Split_bad h hw2) ?_; try dsimp only
    refine ev_eq (Ev.now _) ?_
    unfold goodE
    rw [if_neg hw2]
  · rw [if_pos c] at hw ⊢
    exact ev_pos c (Ev.now _)
theorem opE_zero {f m : Int} {w : Nat} : opE f m w = 0 ↔ isF f ∧ isM m ∧ w < 2 * sg f := by
  unfold opE
  by_cases c : fmE f m = 0
  · obtain ⟨h, hm⟩ := fmE_zero.1 c
    rw [if_neg (fun h => h c)]
    unfold goodE
    by_cases c2 : w < 2 * sg f
    · rw [if_pos c2]; exact ⟨fun _ => ⟨h, hm, c2⟩, fun _ => rfl⟩
    · rw [if_neg c2]; exact ⟨fun h => by omega, fun h => absurd h.2.2 c2⟩
  · rw [if_pos c]
    exact ⟨fun h => absurd h c, fun h => absurd (fmE_zero.2 ⟨h.1, h.2.1⟩) c⟩
/-! ### To -/
def toS (f g m : Int) (w : Nat) : Int × Int :=
  if cls f w = 5 then ((nanW g : Int), 0) else if cls f w = 4 then (((mo g * 2 ^ fb g + sgn g (wneg f w) : Nat) : Int), 0) else if cls f w = 1 then ((sgn g (wneg f w) : Int), 0)
  else roundS g m (wneg f w) (wmag f w) (wex f w)
theorem conv_To_ev {f g m : Int} (h : isF f) (hg : isF g) (hm : isM m) {w : Nat} (hw : w < 2 * sg f) : Ev (fun k => conv_To.f k f g m (w : Int)) ((toS f g m w).1, (toS f g m w).2, 0) := by
  unfold conv_To.f toS
  have he := mode_ev g m
  rw [fmE_zero.2 ⟨hg, hm⟩] at he
  refine Ev.bind (he) ?_; try dsimp only
  refine ev_neg (by omega) ?_
  refine Ev.bind (conv_open_good h hm hw) ?_; try dsimp only
  refine ev_neg (by simp) ?_
  by_cases c5 : cls f w = 5
  · rw [if_pos c5]
    refine ev_pos c5 ?_
    refine Ev.bind (word_None_ev hg) ?_; try dsimp only
    exact Ev.now _
  rw [if_neg c5]
  refine ev_neg c5 ?_
  by_cases c4 : cls f w = 4
  · rw [if_pos c4]
    refine ev_pos c4 ?_
    refine Ev.bind (word_Inf_ev hg (wneg f w)) ?_; try dsimp only
    exact Ev.now _
  rw [if_neg c4]
  refine ev_neg c4 ?_
  by_cases c1 : cls f w = 1
  · rw [if_pos c1]
    refine ev_pos c1 ?_
    refine Ev.bind (word_Zero_ev hg (wneg f w)) ?_; try dsimp only
    exact Ev.now _
  rw [if_neg c1]
  refine ev_neg c1 ?_
  have hb := cls_b h w
  obtain ⟨a1, a2, a3⟩ := w_sv (s := wneg f w) (cls_num h c1 (by omega))
  refine Ev.bind (word_Value_ev h hw (by omega)) ?_; try dsimp only
  have hr := Round_mk hg hm a3 (w_mg h w)
  rw [a1, a2] at hr
  refine Ev.bind (hr) ?_; try dsimp only
  exact Ev.now _
/-- A call's answer, or its refusal. -/
theorem is_no {w x e want fl no : Int} (h : no ≠ 0) : cutplanelaw06_is.f w x e want fl no = some (decide (w = 0 ∧ x = 0 ∧ e = no)) := by
  unfold cutplanelaw06_is.f
  rw [if_pos h]
  by_cases c : w = 0
  · rw [if_pos c]
    by_cases c2 : x = 0
    · rw [if_pos c2]; simp [c, c2]
    · rw [if_neg c2]; simp [c2]
  · rw [if_neg c]; simp [c]
theorem is_yes {w x e want fl : Int} : cutplanelaw06_is.f w x e want fl 0 = some (decide (w = want ∧ x = fl ∧ e = 0)) := by
  unfold cutplanelaw06_is.f
  rw [if_neg (by simp)]
  by_cases c : w = want
  · rw [if_pos c]
    by_cases c2 : x = fl
    · rw [if_pos c2]; simp [c, c2]
    · rw [if_neg c2]; simp [c2]
  · rw [if_neg c]; simp [c]
end Go.Proofs.YtclegbgmhimenaaGreatDoor.Eng.K

/- Remainders: the program's and the reference's quotients to the nearest even whole number. -/
set_option linter.unusedVariables false
set_option linter.unusedSimpArgs false
namespace Go.Proofs.YtclegbgmhimenaaGreatDoor.Eng.K
open Go.RowKit

/-- The whole number nearest to X / Y, of two the even one; what is left of X. -/
def rnE (X Y : Nat) : Nat := X / Y + (if 2 * (X % Y) > Y ∨ (2 * (X % Y) = Y ∧ X / Y % 2 = 1) then 1 else 0)
def remI (X Y : Nat) : Int := (X : Int) - (rnE X Y : Int) * (Y : Int)
def sI (s : Bool) (i : Int) : Int := if s = true then -i else i
theorem remI_cases (X Y : Nat) (hY : 0 < Y) : (rnE X Y = X / Y ∧ remI X Y = ((X % Y : Nat) : Int) ∧ 2 * (X % Y) ≤ Y) ∨ (rnE X Y = X / Y + 1 ∧ remI X Y = -((Y - X % Y : Nat) : Int) ∧ Y ≤ 2 * (X % Y) ∧ X % Y < Y) := by
  have h1 := Nat.div_add_mod X Y
  have h2 := Nat.mod_lt X hY
  unfold remI
  by_cases c : 2 * (X % Y) > Y ∨ (2 * (X % Y) = Y ∧ X / Y % 2 = 1)
  · right
    have e : rnE X Y = X / Y + 1 := by unfold rnE; rw [if_pos c]
    refine ⟨e, ?_, by omega, h2⟩
    rw [e, Int.natCast_add, Int.add_mul, ← Int.natCast_mul, Nat.mul_comm (X / Y) Y]
    generalize Y * (X / Y) = w at *
    omega
  · left
    have e : rnE X Y = X / Y := by unfold rnE; rw [if_neg c, Nat.add_zero]
    refine ⟨e, ?_, by omega⟩
    rw [e, ← Int.natCast_mul, Nat.mul_comm (X / Y) Y]
    generalize Y * (X / Y) = w at *
    omega
theorem remI_le (X Y : Nat) (hY : 0 < Y) : (remI X Y).natAbs ≤ X ∧ 2 * (remI X Y).natAbs ≤ Y := by
  have h1 := Nat.mod_le X Y
  have h3 := Nat.div_add_mod X Y
  rcases remI_cases X Y hY with ⟨_, h, h2⟩ | ⟨_, h, h2, h4⟩
  · rw [h]; omega
  · rw [h]; omega
theorem sv_sI (s : Bool) (n : Nat) : sv s n = sI s (n : Int) := rfl
theorem sI_neg (s : Bool) (i : Int) : sI s (-i) = -sI s i := by unfold sI; split <;> omega
theorem left_ev {sx sy : Bool} {lx ly : List Int} {ex ey : Int} (hx : Dy sx lx ex) (hy : Dy sy ly ey) (x0 : V lx ≠ 0) (y0 : V ly ≠ 0) (bx : bl (V lx) ≤ 64) (bY : bl (V ly) ≤ 64) (h1 : -5000 ≤ ex) (h2 : ex ≤ 5000) (h3 : -5000 ≤ ey) (h4 : ey ≤ 5000) :
    Ev (fun k => conv_left.f k sx lx ex sy ly ey) (mk (sI sx (remI (V lx * 2 ^ (ex - min ex ey).toNat) (V ly * 2 ^ (ey - min ex ey).toNat))) (min ex ey)) := by
  have lenx : lx.length ≤ 2 := by have := len_bl (x := V lx) (k := 2) (by omega); rwa [hx.nm] at this
  have leny : ly.length ≤ 2 := by have := len_bl (x := V ly) (k := 2) (by omega); rwa [hy.nm] at this
  obtain ⟨u, hu⟩ : ∃ u, u = min ex ey := ⟨_, rfl⟩
  obtain ⟨a, ha⟩ : ∃ a : Nat, a = (ex - u).toNat := ⟨_, rfl⟩
  obtain ⟨b, hb⟩ : ∃ b : Nat, b = (ey - u).toNat := ⟨_, rfl⟩
  have hs1 := nat_Shift_ev hx.nm (by omega) (a : Int)
  rw [shiftR_up (by omega)] at hs1
  have hs2 := nat_Shift_ev hy.nm (by omega) (b : Int)
  rw [shiftR_up (by omega)] at hs2
  have w1 : wrap64 (ex - mn ex ey) = (a : Int) := by rw [mn_eq, ← hu]; unfold wrap64; omega
  have w2 : wrap64 (ey - mn ex ey) = (b : Int) := by clear w1; rw [mn_eq, ← hu]; unfold wrap64; omega
  have b1 := bl_up x0 a
  have b2 := bl_up y0 b
  have p1 := Nat.mul_pos (Nat.pos_of_ne_zero x0) (pw_pos a)
  have p2 := Nat.mul_pos (Nat.pos_of_ne_zero y0) (pw_pos b)
  unfold conv_left.f
  rw [w1, w2, mn_eq, ← hu, ← ha, ← hb]
  clear w1 w2
  have ba : a ≤ 10000 := by omega
  have bb : b ≤ 10000 := by omega
  have bu : -5000 ≤ u ∧ u ≤ 5000 := by omega
  clear ha hb hu h1 h2 h3 h4
  generalize hX : V lx * 2 ^ a = X at *
  generalize hY : V ly * 2 ^ b = Y at *
  have hq := nat_QuoRem_ev (Nm_D X) (Nm_D Y) (len_bl (by omega)) (len_bl (by omega))
  rw [V_D, V_D, show quoR X Y = (D (X / Y), D (X % Y), 0) by unfold quoR; rw [if_neg (by omega)]] at hq
  have hr := Nat.mod_lt X (show Y > 0 by omega)
  have hrb := bl_mono (Nat.le_of_lt hr)
  have hs3 := nat_Shift_ev (Nm_D (X % Y)) (len_bl (by omega)) ((1 : Nat) : Int)
  rw [V_D, shiftR_up (by omega), Nat.pow_one] at hs3
  have hr2 := bl_up_le (X % Y) 1
  rw [Nat.pow_one] at hr2
  have hc := nat_Cmp_ev (Nm_D (X % Y * 2)) (Nm_D Y) (len_bl (by omega)) (len_bl (by omega))
  rw [V_D, V_D] at hc
  have jj2 : ∀ (s : Bool) (n : Nat), bl n ≤ 20000 → Ev (fun k => conv_left.j2 k false [] 0 u (D n) s) (mk (sv s n) u) := by
    intro s n hn
    have m1 := dyad_Make_ev s (Nm_D n) (len_bl (by omega)) u
    rw [V_D, makeR_ok3 (by omega) (by omega)] at m1
    refine ev_step ?_
    simp only [conv_left.j2]
    exact Ev.bind m1 (Ev.now _)
  have jj1 : ∀ (x90 : Bool), (x90 = true ↔ (2 * (X % Y) > Y ∨ (2 * (X % Y) = Y ∧ X / Y % 2 = 1))) → Ev (fun k => conv_left.j1 k false [] 0 u (D Y) (D (X % Y)) sx x90) (mk (sI sx (remI X Y)) u) := by
    intro x90 hx90
    refine ev_step ?_
    simp only [conv_left.j1]
    cases x90
    · have hn : ¬ (2 * (X % Y) > Y ∨ (2 * (X % Y) = Y ∧ X / Y % 2 = 1)) := fun h => by have := hx90.2 h; cases this
      have e : remI X Y = ((X % Y : Nat) : Int) := by
        rcases remI_cases X Y (by omega) with ⟨_, h, _⟩ | ⟨h, _, _, _⟩
        · exact h
        · exfalso; unfold rnE at h; rw [if_neg hn] at h; omega
      rw [e]
      exact ev_neg (by simp) (jj2 sx (X % Y) (by omega))
    · have hp := hx90.1 rfl
      have e : remI X Y = -((Y - X % Y : Nat) : Int) := by
        rcases remI_cases X Y (by omega) with ⟨h, _, _⟩ | ⟨_, h, _, _⟩
        · exfalso; unfold rnE at h; rw [if_pos hp] at h; omega
        · exact h
      have hsub := nat_Sub_ev (Nm_D Y) (Nm_D (X % Y)) (len_bl (by omega)) (len_bl (by omega))
      rw [V_D, V_D, show subR Y (X % Y) = (D (Y - X % Y), 0) by unfold subR; rw [if_neg (by omega)]] at hsub
      have hbl := bl_mono (show Y - X % Y ≤ Y by omega)
      rw [e, sI_neg, ← sv_sI, ← sv_not]
      refine ev_pos rfl ?_
      refine Ev.bind (hsub) ?_; try dsimp only
      exact jj2 (!sx) (Y - X % Y) (by omega)
  have jj0 : ∀ (o : Bool), o = decide (X / Y % 2 = 1) → Ev (fun k => conv_left.j0 k sx lx ex false [] 0 u (D Y) (D (X % Y)) (cmpN (X % Y * 2) Y) o) (mk (sI sx (remI X Y)) u) := by
    rintro o rfl
    refine ev_step ?_
    simp only [conv_left.j0]
    unfold cmpN
    rcases Nat.lt_trichotomy (X % Y * 2) Y with c | c | c
    · rw [if_pos c]
      refine ev_neg (by omega) (ev_neg (by omega) (jj1 _ ?_))
      constructor
      · intro h; cases h
      · intro h; omega
    · rw [if_neg (by omega), if_neg (by omega)]
      refine ev_neg (by omega) (ev_pos rfl (jj1 _ ?_))
      rw [decide_eq_true_iff]
      constructor
      · intro h; right; omega
      · rintro (h | h)
        · omega
        · exact h.2
    · rw [if_neg (by omega), if_pos c]
      refine ev_pos (by omega) (jj1 _ ?_)
      constructor
      · intro _; left; omega
      · intro _; rfl
  refine Ev.bind (hs1) ?_; try dsimp only
  refine Ev.bind (hs2) ?_; try dsimp only
  refine Ev.bind (hq) ?_; try dsimp only
  refine Ev.bind (hs3) ?_; try dsimp only
  refine Ev.bind (hc) ?_; try dsimp only
  by_cases c : D (X / Y) = []
  · have h0 : X / Y = 0 := by rw [← V_D (X / Y), c]; rfl
    refine ev_neg (by rw [c]; simp) ?_
    exact jj0 false (by rw [h0]; rfl)
  · have hl := len_pos c
    refine ev_pos hl (ev_pos (by omega) ?_)
    have hod := low_digit (Dg_D (X / Y))
    rw [V_D] at hod
    rw [hod]
    refine jj0 _ ?_
    exact decide_eq_decide.2 (by omega)
/-! ### the reference -/
theorem rnd_bits (m : Int) (s : Bool) {H d : Nat} (b : Bool) (hd : 1 ≤ d) : rnd m s (2 * H + bN b) (d + 1) = H / 2 ^ d + bN (upB m s (decide (H / 2 ^ d % 2 = 1)) (decide (H / 2 ^ (d - 1) % 2 = 1)) (b || decide (H % 2 ^ (d - 1) ≠ 0))) := by
  obtain ⟨a1, a2, a3, a4⟩ := bits_about (H := H) b hd
  unfold rnd
  rw [a1, a2, a3]; rfl
theorem quo_round (s : Bool) {X Y k : Nat} (hY : 0 < Y) (hk : 1 ≤ k) : rnd 1 s (2 * (X * 2 ^ k / Y) + bN (decide (X * 2 ^ k % Y ≠ 0))) (k + 1) = rnE X Y := by
  rw [rnd_bits 1 s _ hk]
  obtain ⟨k', rfl⟩ : ∃ k', k = k' + 1 := ⟨k - 1, by omega⟩
  rw [show k' + 1 - 1 = k' from rfl]
  have hp := pw_pos k'
  have e2 : 2 ^ (k' + 1) = 2 ^ k' * 2 := Nat.pow_succ ..
  have hW : X * 2 ^ (k' + 1) / Y / 2 ^ (k' + 1) = X / Y := by
    rw [Nat.div_div_eq_div_mul, Nat.mul_div_mul_right _ _ (pw_pos _)]
  have hdm := Nat.div_add_mod X Y
  have hr := Nat.mod_lt X hY
  -- q = F 2^k + h
  have hq : X * 2 ^ (k' + 1) / Y = X / Y * 2 ^ (k' + 1) + X % Y * 2 ^ (k' + 1) / Y := by
    have : X * 2 ^ (k' + 1) = Y * (X / Y * 2 ^ (k' + 1)) + X % Y * 2 ^ (k' + 1) := by
      conv => lhs; rw [← hdm]
      rw [Nat.add_mul, Nat.mul_assoc]
    rw [this, Nat.mul_add_div hY]
  have hm : X * 2 ^ (k' + 1) % Y = X % Y * 2 ^ (k' + 1) % Y := by rw [Nat.mod_mul_mod]
  have hh := Nat.div_add_mod (X % Y * 2 ^ (k' + 1)) Y
  have hhm := Nat.mod_lt (X % Y * 2 ^ (k' + 1)) hY
  have hlt : X % Y * 2 ^ (k' + 1) / Y < 2 ^ (k' + 1) := by
    rw [Nat.div_lt_iff_lt_mul hY, Nat.mul_comm]; exact Nat.mul_lt_mul_of_pos_left hr (pw_pos _)
  rw [hW, hm]
  have hA : X * 2 ^ (k' + 1) / Y / 2 ^ k' % 2 = X % Y * 2 ^ (k' + 1) / Y / 2 ^ k' := by
    rw [hq, e2, ← Nat.mul_assoc, Nat.mul_right_comm, Nat.add_comm, Nat.add_mul_div_right _ _ hp, Nat.add_mul_mod_self_right]
    refine Nat.mod_eq_of_lt ?_
    rw [Nat.div_lt_iff_lt_mul hp, Nat.mul_comm 2 (2 ^ k'), ← e2]
    exact hlt
  have hB : X * 2 ^ (k' + 1) / Y % 2 ^ k' = X % Y * 2 ^ (k' + 1) / Y % 2 ^ k' := by
    rw [hq, e2, ← Nat.mul_assoc, Nat.mul_right_comm, Nat.add_comm, Nat.add_mul_mod_self_right]
  rw [hA, hB]
  unfold rnE
  congr 1
  have e3 : X % Y * 2 ^ (k' + 1) = 2 * (X % Y) * 2 ^ k' := by rw [e2, Nat.mul_comm (2 ^ k') 2, ← Nat.mul_assoc, Nat.mul_comm (X % Y) 2]
  rw [e3] at hh hhm hlt ⊢
  rw [e2] at hlt
  clear hA hB hm hq hW
  have hd2 := Nat.div_add_mod (2 * (X % Y) * 2 ^ k' / Y) (2 ^ k')
  have hl2 := Nat.mod_lt (2 * (X % Y) * 2 ^ k' / Y) hp
  have hh1 : 2 * (X % Y) * 2 ^ k' / Y / 2 ^ k' = 1 ↔ Y ≤ 2 * (X % Y) := by
    have a1 : 1 ≤ 2 * (X % Y) * 2 ^ k' / Y / 2 ^ k' ↔ Y ≤ 2 * (X % Y) := by
      rw [Nat.le_div_iff_mul_le hp, Nat.one_mul, Nat.le_div_iff_mul_le hY, Nat.mul_comm (2 ^ k')]
      exact Nat.mul_le_mul_right_iff hp
    have a2 : 2 * (X % Y) * 2 ^ k' / Y / 2 ^ k' < 2 := by
      rw [Nat.div_lt_iff_lt_mul hp, Nat.mul_comm 2 (2 ^ k')]; exact hlt
    omega
  generalize hz : 2 * (X % Y) * 2 ^ k' / Y = z at *
  generalize hy : 2 * (X % Y) * 2 ^ k' % Y = y at *
  by_cases c : Y ≤ 2 * (X % Y)
  · have h1 := hh1.2 c
    rw [h1] at hd2
    have h3 : (y = 0 ∧ z % 2 ^ k' = 0) ↔ 2 * (X % Y) = Y := by
      constructor
      · rintro ⟨h4, h5⟩
        have h6 : 2 * (X % Y) * 2 ^ k' = Y * 2 ^ k' := by rw [← hh, h4, ← hd2, h5, Nat.mul_one]; rfl
        exact Nat.eq_of_mul_eq_mul_right hp h6
      · intro h4
        have h6 : z = 2 ^ k' := by rw [← hz, h4, Nat.mul_div_cancel_left _ hY]
        have h7 : y = 0 := by rw [← hy, h4, Nat.mul_mod_right]
        exact ⟨h7, by rw [h6, Nat.mod_self]⟩
    have e5 : upB 1 s (decide (X / Y % 2 = 1)) (decide (z / 2 ^ k' = 1)) (decide (y ≠ 0) || decide (z % 2 ^ k' ≠ 0)) = decide (2 * (X % Y) > Y ∨ (2 * (X % Y) = Y ∧ X / Y % 2 = 1)) := by
      unfold upB
      rw [if_pos rfl, decide_eq_true h1, Bool.true_and]
      by_cases c2 : 2 * (X % Y) = Y
      · obtain ⟨h4, h5⟩ := h3.2 c2
        rw [h4, h5]
        by_cases c3 : X / Y % 2 = 1
        · simp [c3, c2]
        · simp [c3, c2]
      · have h4 : ¬ (y = 0 ∧ z % 2 ^ k' = 0) := fun h => c2 (h3.1 h)
        rw [decide_eq_true (show 2 * (X % Y) > Y ∨ (2 * (X % Y) = Y ∧ X / Y % 2 = 1) from .inl (by omega))]
        by_cases c4 : y = 0
        · have c5 : z % 2 ^ k' ≠ 0 := fun h => h4 ⟨c4, h⟩
          simp [c5]
        · simp [c4]
    rw [e5]
    unfold bN
    simp only [decide_eq_true_eq]
  · have h1 : ¬ z / 2 ^ k' = 1 := fun h => c (hh1.1 h)
    have e5 : upB 1 s (decide (X / Y % 2 = 1)) (decide (z / 2 ^ k' = 1)) (decide (y ≠ 0) || decide (z % 2 ^ k' ≠ 0)) = false := by
      unfold upB
      rw [if_pos rfl, decide_eq_false h1, Bool.false_and]
    rw [e5, if_neg (by omega)]
    rfl
end Go.Proofs.YtclegbgmhimenaaGreatDoor.Eng.K

/- Remainders, the reference: cuts, quotients, the nearest whole number. -/
set_option linter.unusedVariables false
set_option linter.unusedSimpArgs false
namespace Go.Proofs.YtclegbgmhimenaaGreatDoor.Eng.K
open Go.RowKit

theorem mz_abs {z : Int} (h : z ≠ 0) (e : Int) : ∃ j : Nat, z.natAbs = V (mk z e).2.1 * 2 ^ j ∧ (mk z e).2.2 = e + j ∧ (mk z e).1 = decide (z < 0) ∧ V (mk z e).2.1 ≠ 0 := by
  have hza : z.natAbs ≠ 0 := by omega
  obtain ⟨q, hq⟩ := lw_is hza
  have hd : z.natAbs / 2 ^ lw z.natAbs = 2 * q + 1 := by
    have : z.natAbs / 2 ^ lw z.natAbs = 2 ^ lw z.natAbs * (2 * q + 1) / 2 ^ lw z.natAbs := by rw [← hq]
    rw [this, Nat.mul_div_cancel_left _ (pw_pos _)]
  have hm : mk z e = (decide (z < 0), D (z.natAbs / 2 ^ lw z.natAbs), e + (lw z.natAbs : Nat)) := by unfold mk; rw [if_neg h]
  refine ⟨lw z.natAbs, ?_, by rw [hm], by rw [hm], ?_⟩
  · rw [hm]
    show _ = V (D _) * _
    rw [V_D, hd, Nat.mul_comm]; exact hq
  · rw [hm]
    show V (D _) ≠ 0
    rw [V_D, hd]; omega
/-- What a cut leaves. -/
theorem cut_scale (n j b : Nat) (hn : n ≠ 0) (s : Bool) (e : Int) : mk (sv s (n * 2 ^ j / 2 ^ (bl (n * 2 ^ j) - b))) (e + ((bl (n * 2 ^ j) - b : Nat) : Int)) = mk (sv s (n / 2 ^ (bl n - b))) (e + j + ((bl n - b : Nat) : Int)) ∧ (n * 2 ^ j % 2 ^ (bl (n * 2 ^ j) - b) = 0 ↔ n % 2 ^ (bl n - b) = 0) := by
  rw [bl_up hn]
  by_cases c : bl n ≤ b
  · have e1 : bl n - b = 0 := by omega
    have e2 : bl n + j - b ≤ j := by omega
    generalize bl n + j - b = t at *
    have h1 : n * 2 ^ j = n * 2 ^ (j - t) * 2 ^ t := by rw [Nat.mul_assoc, ← Nat.pow_add]; congr 2; omega
    rw [e1, Nat.pow_zero, Nat.div_one, Nat.mod_one, h1, Nat.mul_div_cancel _ (pw_pos t), Nat.mul_mod_left]
    refine ⟨?_, Iff.rfl⟩
    have h2 : sv s (n * 2 ^ (j - t)) = sv s n * 2 ^ (j - t) := by
      unfold sv; split
      · rw [Int.neg_mul, Int.natCast_mul, Int.natCast_pow]; rfl
      · rw [Int.natCast_mul, Int.natCast_pow]; rfl
    rw [h2, mk_up]; congr 1; omega
  · have e1 : bl n + j - b = bl n - b + j := by omega
    rw [e1]
    have h1 := split_pow (H := n) (j := j) (r := 0) (d := bl n - b) (pw_pos j)
    rw [Nat.add_zero] at h1
    rw [h1.1, h1.2]
    refine ⟨by congr 1; omega, ?_⟩
    constructor
    · intro h
      have h2 : n % 2 ^ (bl n - b) * 2 ^ j = 0 := by omega
      rcases Nat.mul_eq_zero.1 h2 with h3 | h3
      · exact h3
      · have := pw_pos j; omega
    · intro h; rw [h]; omega
theorem rCut_mk {z : Int} (hz : z ≠ 0) {e : Int} (hb : bl z.natAbs ≤ 20000000) (h1 : -90000000000000 ≤ e) (h2 : e ≤ 90000000000000) (b : Nat) (hbb : b ≤ 100000000) : Ev (fun k => cutplaneref02_Cut.f k (mk z e).1 (mk z e).2.1 (mk z e).2.2 b) ((mk (sv (decide (z < 0)) (z.natAbs / 2 ^ (bl z.natAbs - b))) (e + ((bl z.natAbs - b : Nat) : Int))).1, (mk (sv (decide (z < 0)) (z.natAbs / 2 ^ (bl z.natAbs - b))) (e + ((bl z.natAbs - b : Nat) : Int))).2.1, (mk (sv (decide (z < 0)) (z.natAbs / 2 ^ (bl z.natAbs - b))) (e + ((bl z.natAbs - b : Nat) : Int))).2.2, decide (z.natAbs % 2 ^ (bl z.natAbs - b) ≠ 0)) := by
  have a1 := mk_len z e
  have a2 := me_b z e
  have e1 : (mk z e).2.2 = me z e := rfl
  obtain ⟨j, j1, j2, j3, j4⟩ := mz_abs hz e
  have := ref_Cut2_ev (Dy_mk z e) (by omega) (by omega) (by omega) b hbb
  refine ev_eq this ?_
  have hc := cut_scale (V (mk z e).2.1) j b j4 (decide (z < 0)) e
  rw [← j1] at hc
  rw [j2, j3, ← hc.1]
  have : decide (V (mk z e).2.1 % 2 ^ (bl (V (mk z e).2.1) - b) ≠ 0) = decide (z.natAbs % 2 ^ (bl z.natAbs - b) ≠ 0) := decide_eq_decide.2 (not_congr hc.2.symm)
  rw [this]
/-- A quotient of sizes, cut to b bits. -/
def quoN (A B b : Nat) : Nat := b + 1 + bl B - bl A
def quoC (A B b : Nat) : Nat := bl (A * 2 ^ quoN A B b / B) - b
def quoQ (A B b : Nat) : Nat := A * 2 ^ quoN A B b / (B * 2 ^ quoC A B b)
def quoL (A B b : Nat) : Bool := decide (A * 2 ^ quoN A B b % (B * 2 ^ quoC A B b) ≠ 0)
theorem wexp2 {ea eb : Int} {n : Nat} (h1 : -1000000000 ≤ ea) (h2 : ea ≤ 1000000000) (h3 : -1000000000 ≤ eb) (h4 : eb ≤ 1000000000) (hn : n ≤ 100000000) : wrap64 (wrap64 (ea - eb) - (n : Int)) = ea - eb - (n : Int) := by unfold wrap64; omega
theorem wlen3 {b x y : Nat} (h1 : b ≤ 1000000) (h2 : x ≤ 10000000) (h3 : y ≤ 10000000) : wrap64 (wrap64 (wrap64 ((b : Int) + 1) + (x : Int)) - (y : Int)) = (b : Int) + 1 + (x : Int) - (y : Int) := by unfold wrap64; omega
theorem rQuo_ev {sa sb : Bool} {la lb : List Int} {ea eb : Int} (ha : Dy sa la ea) (hb : Dy sb lb eb) (A0 : V la ≠ 0) (B0 : V lb ≠ 0) (l1 : la.length ≤ 100000) (l2 : lb.length ≤ 100000) (h1 : -1000000000 ≤ ea) (h2 : ea ≤ 1000000000) (h3 : -1000000000 ≤ eb) (h4 : eb ≤ 1000000000) (b : Nat) (hbb : b ≤ 1000000) :
    Ev (fun k => cutplaneref02_Quo.f k sa la ea sb lb eb b) ((mk (sv (sa != sb) (quoQ (V la) (V lb) b)) (ea - eb - (quoN (V la) (V lb) b : Nat) + (quoC (V la) (V lb) b : Nat))).1, (mk (sv (sa != sb) (quoQ (V la) (V lb) b)) (ea - eb - (quoN (V la) (V lb) b : Nat) + (quoC (V la) (V lb) b : Nat))).2.1, (mk (sv (sa != sb) (quoQ (V la) (V lb) b)) (ea - eb - (quoN (V la) (V lb) b : Nat) + (quoC (V la) (V lb) b : Nat))).2.2, quoL (V la) (V lb) b) := by
  have b1 := bl_list ha.nm.dg
  have b2 := bl_list hb.nm.dg
  have lne : lb ≠ [] := fun h => B0 (by rw [h]; rfl)
  have ane : la ≠ [] := fun h => A0 (by rw [h]; rfl)
  have hN : quoN (V la) (V lb) b = b + 1 + bl (V lb) - bl (V la) := rfl
  have hC : quoC (V la) (V lb) b = bl (V la * 2 ^ quoN (V la) (V lb) b / V lb) - b := rfl
  have hup := ref_Up_ev ha.nm.dg (by omega) (quoN (V la) (V lb) b) (by omega)
  have hul := upl_len ha.nm.dg (n := quoN (V la) (V lb) b)
  have hq := ref_QuoRem_ev (Nm_D (V la * 2 ^ quoN (V la) (V lb) b)) hb.nm (by omega) (by omega) lne
  rw [V_D] at hq
  have last : ∀ u v w, Ev (fun k => cutplaneref02_Quo.j1 k b sa la ea sb lb eb u v w (quoN (V la) (V lb) b : Nat)) ((mk (sv (sa != sb) (quoQ (V la) (V lb) b)) (ea - eb - (quoN (V la) (V lb) b : Nat) + (quoC (V la) (V lb) b : Nat))).1, (mk (sv (sa != sb) (quoQ (V la) (V lb) b)) (ea - eb - (quoN (V la) (V lb) b : Nat) + (quoC (V la) (V lb) b : Nat))).2.1, (mk (sv (sa != sb) (quoQ (V la) (V lb) b)) (ea - eb - (quoN (V la) (V lb) b : Nat) + (quoC (V la) (V lb) b : Nat))).2.2, quoL (V la) (V lb) b) := by
    intro u v w
    refine ev_step ?_
    simp only [cutplaneref02_Quo.j1]
    refine Ev.bind (hup) ?_; try dsimp only
    refine Ev.bind (hq) ?_; try dsimp only
    rw [wexp2 h1 h2 h3 h4 (by omega), ne_dec]
    have eQ : quoQ (V la) (V lb) b = V la * 2 ^ quoN (V la) (V lb) b / V lb / 2 ^ quoC (V la) (V lb) b := by unfold quoQ; rw [Nat.div_div_eq_div_mul]
    have eL : quoL (V la) (V lb) b = (decide (V la * 2 ^ quoN (V la) (V lb) b / V lb % 2 ^ quoC (V la) (V lb) b ≠ 0) || decide (V la * 2 ^ quoN (V la) (V lb) b % V lb ≠ 0)) := by
      unfold quoL
      rw [Nat.mod_mul]
      have hB : 0 < V lb := by omega
      generalize V la * 2 ^ quoN (V la) (V lb) b / V lb % 2 ^ quoC (V la) (V lb) b = x
      generalize V la * 2 ^ quoN (V la) (V lb) b % V lb = y
      by_cases c : x = 0
      · subst c; simp
      · have : V lb * x ≠ 0 := Nat.mul_ne_zero (by omega) c
        rw [decide_eq_true (show y + V lb * x ≠ 0 by omega), decide_eq_true c, Bool.true_or]
    have hqb : bl (V la * 2 ^ quoN (V la) (V lb) b / V lb) ≤ bl (V la) + quoN (V la) (V lb) b := Nat.le_trans (bl_mono (Nat.div_le_self _ _)) (bl_up_le _ _)
    have hQ0 : V la * 2 ^ quoN (V la) (V lb) b / V lb ≠ 0 := by
      have h5 := lt_bl (V lb)
      have h6 : 2 ^ bl (V lb) ≤ V la * 2 ^ quoN (V la) (V lb) b := by
        have h7 := bl_le A0
        have h8 : 2 ^ (bl (V la) - 1) * 2 ^ quoN (V la) (V lb) b ≤ V la * 2 ^ quoN (V la) (V lb) b := Nat.mul_le_mul_right _ h7
        rw [← Nat.pow_add] at h8
        have h9 := bl_pos A0
        exact Nat.le_trans (Nat.pow_le_pow_right (by omega) (by omega)) h8
      have := Nat.div_pos (show V lb ≤ V la * 2 ^ quoN (V la) (V lb) b by omega) (by omega)
      omega
    rw [eL, eQ]
    generalize hNN : quoN (V la) (V lb) b = n at *
    generalize hCC : quoC (V la) (V lb) b = c at *
    generalize V la * 2 ^ n % V lb = y
    generalize hx : V la * 2 ^ n / V lb = x at *
    clear hup hq
    have hf := ref_Form_ev (sa != sb) (Nm_D x) (by have := len_bl (x := x) (k := 300000) (by omega); omega) (e := ea - eb - (n : Int)) (by omega) (by omega)
    rw [V_D] at hf
    refine Ev.bind (hf) ?_; try dsimp only
    obtain ⟨a1, a2, a3⟩ := w_sv (s := (sa != sb)) hQ0
    have hc := rCut_mk a3 (e := ea - eb - (n : Int)) (by rw [a2]; omega) (by omega) (by omega) b (by omega)
    rw [a1, a2, ← hC] at hc
    refine Ev.bind (hc) ?_; try dsimp only
    cases hcx : decide (x % 2 ^ c ≠ 0)
    · refine ev_neg (by simp) (ev_eq (Ev.now _) ?_)
      rw [Bool.false_or]
      have : decide (((D y).length : Int) > 0) = decide (y ≠ 0) := decide_eq_decide.2 (by
        constructor
        · intro h h2; rw [h2, D_zero] at h; simp at h
        · intro h
          have : (D y) ≠ [] := fun h2 => h (by rw [← V_D y, h2]; rfl)
          exact len_pos this)
      rw [this]
    · refine ev_pos rfl (ev_eq (Ev.now _) ?_)
      rw [Bool.true_or]
  unfold cutplaneref02_Quo.f
  refine ev_neg (fun h => ane (nil_len.1 h)) ?_
  refine Ev.bind (ref_Len_ev hb.nm (by omega)) ?_; try dsimp only
  refine Ev.bind (ref_Len_ev ha.nm (by omega)) ?_; try dsimp only
  rw [wlen3 hbb (by omega) (by omega)]
  by_cases c : (b : Int) + 1 + (bl (V lb) : Nat) - (bl (V la) : Nat) < 0
  · refine ev_pos c ?_
    have : ((quoN (V la) (V lb) b : Nat) : Int) = 0 := by omega
    rw [← this]
    exact last _ _ _
  · refine ev_neg c ?_
    have : (b : Int) + 1 + (bl (V lb) : Nat) - (bl (V la) : Nat) = ((quoN (V la) (V lb) b : Nat) : Int) := by omega
    rw [this]
    exact last _ _ _
/-- A quotient's bits. -/
theorem quo_top {A B : Nat} (hA : A ≠ 0) (hB : B ≠ 0) (n : Nat) (h : bl B ≤ bl A + n) : bl A + n - bl B ≤ bl (A * 2 ^ n / B) ∧ bl (A * 2 ^ n / B) ≤ bl A + n - bl B + 1 := by
  have h1 := bl_le hA
  have h2 := lt_bl A
  have h3 := bl_le hB
  have h4 := lt_bl B
  have h5 := bl_pos hA
  have h6 := bl_pos hB
  have lo : 2 ^ (bl A - 1 + n) ≤ A * 2 ^ n := by rw [Nat.pow_add]; exact Nat.mul_le_mul_right _ h1
  have hi : A * 2 ^ n < 2 ^ (bl A + n) := by rw [Nat.pow_add]; exact Nat.mul_lt_mul_of_pos_right h2 (pw_pos n)
  constructor
  · rcases Nat.eq_zero_or_pos (bl A + n - bl B) with c | c
    · omega
    · have h7 : 2 ^ (bl A + n - bl B - 1) ≤ A * 2 ^ n / B := by
        rw [Nat.le_div_iff_mul_le (by omega)]
        have h8 : 2 ^ (bl A + n - bl B - 1) * B ≤ 2 ^ (bl A + n - bl B - 1) * 2 ^ bl B := Nat.mul_le_mul_left _ (by omega)
        rw [← Nat.pow_add, show bl A + n - bl B - 1 + bl B = bl A - 1 + n by omega] at h8
        omega
      have h9 := bl_mono h7
      have : bl (2 ^ (bl A + n - bl B - 1)) = bl A + n - bl B := by
        have := bl_up (v := 1) (by omega) (bl A + n - bl B - 1)
        rw [Nat.one_mul] at this
        rw [this, show bl 1 = 1 by decide]; omega
      omega
  · refine bl_le_of_lt ?_
    rw [Nat.div_lt_iff_lt_mul (by omega)]
    have h8 : 2 ^ (bl A + n - bl B + 1) * 2 ^ (bl B - 1) ≤ 2 ^ (bl A + n - bl B + 1) * B := Nat.mul_le_mul_left _ h3
    rw [← Nat.pow_add, show bl A + n - bl B + 1 + (bl B - 1) = bl A + n by omega] at h8
    omega
theorem quoC_b {A B b : Nat} (hA : A ≠ 0) (hB : B ≠ 0) : quoN A B b + bl A = b + quoC A B b + bl B ∨ quoN A B b + bl A + 1 = b + quoC A B b + bl B := by
  have h := quo_top hA hB (quoN A B b) (by unfold quoN; omega)
  have hN : quoN A B b = b + 1 + bl B - bl A := rfl
  have hC : quoC A B b = bl (A * 2 ^ quoN A B b / B) - b := rfl
  omega
theorem quoQ_bl {A B b : Nat} (hA : A ≠ 0) (hB : B ≠ 0) : bl (quoQ A B b) = b := by
  have h := quo_top hA hB (quoN A B b) (by unfold quoN; omega)
  have hN : quoN A B b = b + 1 + bl B - bl A := rfl
  have hC : quoC A B b = bl (A * 2 ^ quoN A B b / B) - b := rfl
  unfold quoQ
  rw [← Nat.div_div_eq_div_mul, bl_down]
  omega
/-- The same quotient, of sizes with other powers of two. -/
theorem div_scale {A B p q p' q' : Nat} (h : p + q' = p' + q) : A * 2 ^ p / (B * 2 ^ q) = A * 2 ^ p' / (B * 2 ^ q') ∧ (A * 2 ^ p % (B * 2 ^ q) = 0 ↔ A * 2 ^ p' % (B * 2 ^ q') = 0) := by
  have e1 : A * 2 ^ p * 2 ^ q' = A * 2 ^ p' * 2 ^ q := by rw [Nat.mul_assoc, Nat.mul_assoc, ← Nat.pow_add, ← Nat.pow_add, h]
  have e2 : B * 2 ^ q * 2 ^ q' = B * 2 ^ q' * 2 ^ q := by rw [Nat.mul_right_comm]
  have d1 := Nat.mul_div_mul_right (A * 2 ^ p) (B * 2 ^ q) (pw_pos q')
  have d2 := Nat.mul_div_mul_right (A * 2 ^ p') (B * 2 ^ q') (pw_pos q)
  rw [e1, e2] at d1
  have m1 := Nat.mul_mod_mul_right (2 ^ q') (A * 2 ^ p) (B * 2 ^ q)
  have m2 := Nat.mul_mod_mul_right (2 ^ q) (A * 2 ^ p') (B * 2 ^ q')
  rw [e1, e2, m2] at m1
  refine ⟨by rw [← d1, d2], ?_⟩
  have p1 := pw_pos q
  have p2 := pw_pos q'
  constructor
  · intro h1
    rw [h1, Nat.zero_mul] at m1
    rcases Nat.mul_eq_zero.1 m1 with h3 | h3
    · exact h3
    · omega
  · intro h1
    rw [h1, Nat.zero_mul] at m1
    rcases Nat.mul_eq_zero.1 m1.symm with h3 | h3
    · exact h3
    · omega
theorem R_null (m : Int) (s : Bool) (e E : Int) : R m s 0 e E = 0 := by
  unfold R; rw [Nat.zero_mul, rnd_exact (Nat.zero_mod _), Nat.zero_div]
theorem rWhole_ev {m : Int} (hm : isM m) {z e : Int} (hb : bl z.natAbs ≤ 9000000) (h1 : -4000000 ≤ e) (h2 : e ≤ 4000000) : Ev (fun k => cutplaneref06_Whole.f k m (mk z e).1 (mk z e).2.1 (mk z e).2.2) (mk (TK m z e 0) 0) := by
  unfold cutplaneref06_Whole.f
  refine ev_bind (rSign_mk z e) ?_; try dsimp only
  by_cases c : z = 0
  · subst c
    refine ev_pos rfl (ev_eq (Ev.now _) ?_)
    have : TK m 0 e 0 = 0 := by rw [TK_zero]; exact R_null _ _ _ _
    rw [this]; rfl
  · refine ev_neg (fun h => c (by rcases sgn_cases z with ⟨_, k⟩ | ⟨k, _⟩ | ⟨_, k⟩ <;> omega)) ?_
    refine Ev.bind (rTaken_ev hm c hb h1 h2 (by omega) (by omega)) ?_; try dsimp only
    exact Ev.now _
theorem sv_pow (s : Bool) (n j : Nat) : sv s n * 2 ^ j = sv s (n * 2 ^ j) := by
  unfold sv; split
  · rw [Int.neg_mul, Int.natCast_mul, Int.natCast_pow]; rfl
  · rw [Int.natCast_mul, Int.natCast_pow]; rfl
theorem nearest_ev {sx sy : Bool} {lx ly : List Int} {ex ey : Int} (hx : Dy sx lx ex) (hy : Dy sy ly ey) (x0 : V lx ≠ 0) (y0 : V ly ≠ 0) (bx : bl (V lx) ≤ 64) (bY : bl (V ly) ≤ 64) (h1 : -5000 ≤ ex) (h2 : ex ≤ 5000) (h3 : -5000 ≤ ey) (h4 : ey ≤ 5000) :
    Ev (fun k => cutplaneref06_nearest.f k sx lx ex sy ly ey) (mk (sv (sx != sy) (rnE (V lx * 2 ^ (ex - min ex ey).toNat) (V ly * 2 ^ (ey - min ex ey).toNat))) 0) := by
  have lenx : lx.length ≤ 2 := by have := len_bl (x := V lx) (k := 2) (by omega); rwa [hx.nm] at this
  have leny : ly.length ≤ 2 := by have := len_bl (x := V ly) (k := 2) (by omega); rwa [hy.nm] at this
  have hp1 := bl_pos x0
  have hp2 := bl_pos y0
  have t1 := ref_Top2_ev hx (by omega) (by omega) (by omega)
  have t2 := ref_Top2_ev hy (by omega) (by omega) (by omega)
  have e1 : top (sv sx (V lx)) ex = ex + (bl (V lx) : Nat) := by unfold top; rw [if_neg (fun h => x0 (sv_eq_zero.1 h)), sv_abs]
  have e2 : top (sv sy (V ly)) ey = ey + (bl (V ly) : Nat) := by unfold top; rw [if_neg (fun h => y0 (sv_eq_zero.1 h)), sv_abs]
  rw [e1] at t1
  rw [e2] at t2
  unfold cutplaneref06_nearest.f
  refine ev_bind (ref_Sign2_eq hx) ?_; try dsimp only
  refine ev_neg (by rw [sv_sign x0]; split <;> omega) ?_
  refine Ev.bind (t1) ?_; try dsimp only
  refine Ev.bind (t2) ?_; try dsimp only
  have w1 : wrap64 (wrap64 (ex + (bl (V lx) : Nat) - (ey + (bl (V ly) : Nat))) + 3) = ex + (bl (V lx) : Nat) - (ey + (bl (V ly) : Nat)) + 3 := by unfold wrap64; omega
  rw [w1]
  clear w1
  by_cases c : ex + (bl (V lx) : Nat) - (ey + (bl (V ly) : Nat)) + 3 < 2
  · refine ev_pos c (ev_eq (Ev.now _) ?_)
    have hlt : 2 * (V lx * 2 ^ (ex - min ex ey).toNat) < V ly * 2 ^ (ey - min ex ey).toNat := by
      have h5 := lt_bl (V lx)
      have h6 := bl_le y0
      have h7 : V lx * 2 ^ (ex - min ex ey).toNat < 2 ^ bl (V lx) * 2 ^ (ex - min ex ey).toNat := Nat.mul_lt_mul_of_pos_right h5 (pw_pos _)
      have h8 : 2 ^ (bl (V ly) - 1) * 2 ^ (ey - min ex ey).toNat ≤ V ly * 2 ^ (ey - min ex ey).toNat := Nat.mul_le_mul_right _ h6
      rw [← Nat.pow_add] at h7 h8
      have h9 : 2 ^ (bl (V lx) + (ex - min ex ey).toNat + 1) ≤ 2 ^ (bl (V ly) - 1 + (ey - min ex ey).toNat) := Nat.pow_le_pow_right (by omega) (by omega)
      rw [Nat.pow_succ] at h9
      omega
    have hz : rnE (V lx * 2 ^ (ex - min ex ey).toNat) (V ly * 2 ^ (ey - min ex ey).toNat) = 0 := by
      unfold rnE
      rw [Nat.div_eq_of_lt (by omega), Nat.mod_eq_of_lt (by omega), if_neg (by omega)]
    rw [hz, sv_zero]; rfl
  refine ev_neg c ?_
  obtain ⟨b, hb⟩ := Int.eq_ofNat_of_zero_le (show 0 ≤ ex + (bl (V lx) : Nat) - (ey + (bl (V ly) : Nat)) + 3 by omega)
  rw [hb]
  have hq := rQuo_ev hx hy x0 y0 (by omega) (by omega) (by omega) (by omega) (by omega) (by omega) b (by omega)
  have hbb : b ≤ 20000 := by omega
  have hb2 : 2 ≤ b := by omega
  have hcb := quoC_b (b := b) x0 y0
  have hqb := quoQ_bl (b := b) x0 y0
  have hN : quoN (V lx) (V ly) b = b + 1 + bl (V ly) - bl (V lx) := rfl
  obtain ⟨k, hk⟩ : ∃ k : Nat, ex - ey - (quoN (V lx) (V ly) b : Nat) + (quoC (V lx) (V ly) b : Nat) = -(k : Int) := ⟨(-(ex - ey - (quoN (V lx) (V ly) b : Nat) + (quoC (V lx) (V ly) b : Nat))).toNat, by omega⟩
  have hk23 : k = 2 ∨ k = 3 := by omega
  have hsc := div_scale (A := V lx) (B := V ly) (p := quoN (V lx) (V ly) b) (q := quoC (V lx) (V ly) b) (p' := (ex - min ex ey).toNat + k) (q' := (ey - min ex ey).toNat) (by omega)
  rw [Nat.pow_add, ← Nat.mul_assoc] at hsc
  have hqr := quo_round (sx != sy) (X := V lx * 2 ^ (ex - min ex ey).toNat) (Y := V ly * 2 ^ (ey - min ex ey).toNat) (k := k) (Nat.mul_pos (by omega) (pw_pos _)) (by omega)
  rw [← hsc.1] at hqr
  have hL : quoL (V lx) (V ly) b = decide (V lx * 2 ^ (ex - min ex ey).toNat * 2 ^ k % (V ly * 2 ^ (ey - min ex ey).toNat) ≠ 0) := decide_eq_decide.2 (not_congr hsc.2)
  rw [← hL] at hqr
  have hQ : V lx * 2 ^ quoN (V lx) (V ly) b / (V ly * 2 ^ quoC (V lx) (V ly) b) = quoQ (V lx) (V ly) b := rfl
  rw [hQ] at hqr
  rw [hk] at hq
  rw [← hqr]
  clear hqr hL hQ hsc hcb hN hk t1 t2
  clear hb
  generalize hs : (sx != sy) = s at *
  generalize hQQ : quoQ (V lx) (V ly) b = Q at *
  generalize hLL : quoL (V lx) (V ly) b = L at *
  have hQ0 : Q ≠ 0 := by intro h; rw [h, bl_zero] at hqb; omega
  obtain ⟨a1, a2, a3⟩ := w_sv (s := s) hQ0
  have hs1 : (mk (sv s Q) (-(k : Int))).1 = s := by unfold mk; rw [if_neg a3, a1]
  refine Ev.bind (hq) ?_; try dsimp only
  have rQ : Rg (sv s Q) (-(k : Int)) := ⟨by rw [a2]; omega, by omega, by omega⟩
  have isM1 : isM 1 := ⟨by omega, by omega⟩
  cases L
  · refine ev_neg (by simp) ?_
    have hw := rWhole_ev isM1 (z := sv s Q) (e := -(k : Int)) (by rw [a2]; omega) (by omega) (by omega)
    have eT : TK 1 (sv s Q) (-(k : Int)) 0 = sv s (rnd 1 s (2 * Q + bN false) (k + 1)) := by
      unfold TK R
      rw [a1, a2, show (-(k : Int) - 0).toNat = 0 by omega, show (0 - -(k : Int)).toNat = k by omega, Nat.pow_zero, Nat.mul_one]
      have := rnd_up 1 s Q k 1
      rw [Nat.pow_one, Nat.mul_comm] at this
      rw [← this]; rfl
    rw [eT] at hw
    refine Ev.bind (hw) ?_; try dsimp only
    exact Ev.now _
  · refine ev_pos rfl ?_
    refine ev_bind (rTwo_eq (-9)) ?_; try dsimp only
    rw [hs1]
    have r1 : Rg (sv s 1) (-9) := ⟨by rw [sv_abs]; decide, by omega, by omega⟩
    have hadd := rAdd_mk rQ r1
    obtain ⟨j, hj⟩ : ∃ j : Nat, -(k : Int) = -9 + (j : Int) := ⟨9 - k, by omega⟩
    have hj9 : k + j = 9 := by omega
    have ea : addD (sv s Q) (-(k : Int)) (sv s 1) (-9) = mk (sv s (Q * 2 ^ j + 1)) (-9) := by
      rw [addD_comm, hj, addD_lift, sv_pow, sv_add, Nat.add_comm]
    rw [ea, hs1] at hadd
    have hn0 : Q * 2 ^ j + 1 ≠ 0 := by omega
    obtain ⟨c1, c2, c3⟩ := w_sv (s := s) hn0
    have hbl : bl (Q * 2 ^ j + 1) ≤ b + 10 := by
      have h5 := bl_succ (Q * 2 ^ j)
      have h6 := bl_up_le Q j
      omega
    have hw := rWhole_ev isM1 (z := sv s (Q * 2 ^ j + 1)) (e := -9) (by rw [c2]; omega) (by omega) (by omega)
    have eT : TK 1 (sv s (Q * 2 ^ j + 1)) (-9) 0 = sv s (rnd 1 s (2 * Q + bN true) (k + 1)) := by
      unfold TK R
      rw [c1, c2, show (-9 - 0 : Int).toNat = 0 by omega, show (0 - -9 : Int).toNat = 9 by omega, Nat.pow_zero, Nat.mul_one]
      have h5 : 1 < 2 ^ j := by
        have : 2 ^ 1 ≤ 2 ^ j := Nat.pow_le_pow_right (by omega) (by omega)
        omega
      have := rnd_sticky 1 s (H := Q) (j := j) (r := 1) (d := k) h5 (by omega)
      rw [hj9] at this
      rw [this]; rfl
    rw [eT] at hw
    cases s
    · refine ev_neg (by simp) ?_
      have e5 : sv false 1 = 1 := rfl
      rw [e5] at hadd
      refine Ev.bind (hadd) ?_; try dsimp only
      refine Ev.bind (hw) ?_; try dsimp only
      exact Ev.now _
    · refine ev_pos rfl ?_
      refine ev_bind (rNeg_mk 1 (-9)) ?_; try dsimp only
      have e5 : sv true 1 = -1 := rfl
      rw [e5] at hadd
      refine Ev.bind (hadd) ?_; try dsimp only
      refine Ev.bind (hw) ?_; try dsimp only
      exact Ev.now _
end Go.Proofs.YtclegbgmhimenaaGreatDoor.Eng.K

/- Remainders of words, both ways; what is known. -/
set_option linter.unusedVariables false
set_option linter.unusedSimpArgs false
namespace Go.Proofs.YtclegbgmhimenaaGreatDoor.Eng.K
open Go.RowKit

theorem rword_of_size {f : Int} (h : isF f) (s : Bool) {q : Nat} {E : Int} (hq : q ≤ 2 ^ pr f) (hE : lo f ≤ E) (hw : (bl q : Int) + E ≤ wd f) (h0 : q ≠ 0) : Ev (fun k => cutplaneref03_Of.f k f (mk (sv s q) E).1 (mk (sv s q) E).2.1 (mk (sv s q) E).2.2) (((encN f q E + sgn f s : Nat) : Int), true) := by
  have hpr := pr_eq h
  have h2 := (odd_bl h0 hq).resolve_right (by omega)
  have h3 := top_lw h0
  have hdy := Dy_mk (sv s q) E
  rw [mk_sv s h0] at hdy ⊢
  have hne : D (q / 2 ^ lw q) ≠ [] := by
    intro hc
    have h1 : V (D (q / 2 ^ lw q)) = 0 := by rw [hc]; rfl
    rw [V_D] at h1
    rw [h1, bl_zero] at h3
    have := lw_lt h0
    omega
  have hdy : Dy s (D (q / 2 ^ lw q)) (E + (lw q : Nat)) := hdy
  have := rOf_ev h hdy hne (by rw [V_D]; exact h2) (by omega) (by rw [V_D]; omega)
  rw [V_D] at this
  exact this
theorem rOf_zero (f e : Int) : Ev (fun k => cutplaneref03_Of.f k f (mk 0 e).1 (mk 0 e).2.1 (mk 0 e).2.2) (0, true) := by
  unfold cutplaneref03_Of.f
  refine ev_bind (rSign_mk 0 e) ?_; try dsimp only
  exact ev_pos rfl (Ev.now _)
theorem bl_mul (x y : Nat) : bl (x * y) ≤ bl x + bl y := bl_le_of_lt (by rw [Nat.pow_add]; exact Nat.mul_lt_mul'' (lt_bl x) (lt_bl y))
/-- A finite word's number, in its one form. -/
def wv (f : Int) (w : Nat) : Bool × List Int × Int := mk (sv (wneg f w) (wmag f w)) (wex f w)
structure Wv (f : Int) (w : Nat) : Prop where
  dy : Dy (wv f w).1 (wv f w).2.1 (wv f w).2.2
  ne : V (wv f w).2.1 ≠ 0
  b : bl (V (wv f w).2.1) ≤ pr f
  lo : lo f ≤ (wv f w).2.2
  hi : (wv f w).2.2 + (bl (V (wv f w).2.1) : Nat) = wex f w + (bl (wmag f w) : Nat)
  s : (wv f w).1 = wneg f w
theorem fin_top {f : Int} (h : isF f) {w : Nat} (h2 : cls f w < 4) : wex f w + (bl (wmag f w) : Nat) ≤ wd f := by
  rw [cls_eq h] at h2
  have h3 := wmag_bl h w
  have h4 := fits_room h
  have h5 := wfrac_lt f w
  have h6 := pr_eq h
  have h7 := mo_ge h
  have hlo := lo_b h
  have hwd := wd_b h
  by_cases c : wexpo f w = 0
  · unfold wex; rw [if_pos c]
    have := fb_le h
    omega
  · rw [if_neg c] at h2
    have : wexpo f w < mo f := by
      rcases Nat.lt_or_ge (wexpo f w) (mo f) with c2 | c2
      · exact c2
      · rw [if_neg (by omega)] at h2; split at h2 <;> omega
    unfold wex; rw [if_neg c]
    omega
theorem wv_ok {f : Int} (h : isF f) {w : Nat} (h1 : cls f w ≠ 1) (h2 : cls f w < 4) : Wv f w := by
  have hn := cls_num h h1 h2
  obtain ⟨a1, a2, a3⟩ := w_sv (s := wneg f w) hn
  obtain ⟨j, j1, j2, j3, j4⟩ := mz_abs a3 (wex f w)
  have hb := wmag_bl h w
  have hl : lo f ≤ wex f w := by
    unfold wex
    split <;> omega
  rw [a2] at j1
  have hbl : bl (wmag f w) = bl (V (wv f w).2.1) + j := by rw [j1]; exact bl_up j4 j
  have e2 : (wv f w).2.2 = wex f w + j := j2
  refine ⟨Dy_mk _ _, j4, by omega, by omega, by omega, ?_⟩
  show (mk _ _).1 = _
  rw [j3, a1]
/-- What is left. -/
def remA (f : Int) (a b : Nat) : Nat := V (wv f a).2.1 * 2 ^ ((wv f a).2.2 - min (wv f a).2.2 (wv f b).2.2).toNat
def remB (f : Int) (a b : Nat) : Nat := V (wv f b).2.1 * 2 ^ ((wv f b).2.2 - min (wv f a).2.2 (wv f b).2.2).toNat
def remZ (f : Int) (a b : Nat) : Int := sI (wneg f a) (remI (remA f a b) (remB f a b))
def remU (f : Int) (a b : Nat) : Int := min (wv f a).2.2 (wv f b).2.2
def remS (f : Int) (a b : Nat) : Int × Int :=
  if cls f a = 5 ∨ cls f b = 5 then ((nanW f : Int), 0) else if cls f a = 4 ∨ cls f b = 1 then ((nanW f : Int), 1) else if cls f b = 4 ∨ cls f a = 1 then ((a : Int), 0)
  else if remZ f a b = 0 then ((sgn f (wneg f a) : Int), 0) else (((encN f (remZ f a b).natAbs (remU f a b) + sgn f (decide (remZ f a b < 0)) : Nat) : Int), 0)
theorem rem_fits {f : Int} (h : isF f) {a b : Nat} (ha1 : cls f a ≠ 1) (ha2 : cls f a < 4) (hb1 : cls f b ≠ 1) (hb2 : cls f b < 4) : (remZ f a b).natAbs ≤ 2 ^ pr f ∧ lo f ≤ remU f a b ∧ (bl (remZ f a b).natAbs : Int) + remU f a b ≤ wd f := by
  have wa := wv_ok h ha1 ha2
  have wb := wv_ok h hb1 hb2
  have hB : 0 < remB f a b := Nat.mul_pos (Nat.pos_of_ne_zero wb.ne) (pw_pos _)
  have hle := remI_le (remA f a b) (remB f a b) hB
  have hab : (remZ f a b).natAbs = (remI (remA f a b) (remB f a b)).natAbs := by unfold remZ sI; split <;> omega
  rw [hab]
  have ft := fin_top h ha2
  have la := wa.lo
  have lb := wb.lo
  have hi := wa.hi
  refine ⟨?_, by unfold remU; omega, ?_⟩
  · rcases Int.le_total (wv f a).2.2 (wv f b).2.2 with c | c
    · have e : remA f a b = V (wv f a).2.1 := by unfold remA; rw [Int.min_eq_left c, Int.sub_self]; simp
      have h1 := lt_bl (V (wv f a).2.1)
      have h2 : 2 ^ bl (V (wv f a).2.1) ≤ 2 ^ pr f := Nat.pow_le_pow_right (by omega) wa.b
      omega
    · have e : remB f a b = V (wv f b).2.1 := by unfold remB; rw [Int.min_eq_right c, Int.sub_self]; simp
      have h1 := lt_bl (V (wv f b).2.1)
      have h2 : 2 ^ bl (V (wv f b).2.1) ≤ 2 ^ pr f := Nat.pow_le_pow_right (by omega) wb.b
      omega
  · have h1 := bl_mono hle.1
    have h2 : bl (remA f a b) = bl (V (wv f a).2.1) + ((wv f a).2.2 - min (wv f a).2.2 (wv f b).2.2).toNat := bl_up wa.ne _
    unfold remU
    omega
theorem wv_b {f : Int} (h : isF f) {w : Nat} (hw : Wv f w) (h2 : cls f w < 4) : -5000 ≤ (wv f w).2.2 ∧ (wv f w).2.2 ≤ 5000 ∧ bl (V (wv f w).2.1) ≤ 64 := by
  have := hw.lo
  have := hw.hi
  have := hw.b
  have := lo_b h
  have := wd_b h
  have := fin_top h h2
  have := pr_eq h
  have := fb_le h
  refine ⟨by omega, by omega, by omega⟩
theorem zero_word {f : Int} (h : isF f) {w : Nat} (hw : w < 2 * sg f) (hc : cls f w = 1) : w = sgn f (wneg f w) := by
  have hz : w % sg f = 0 := by
    unfold cls at hc
    split at hc
    · assumption
    · split at hc
      · omega
      · split at hc
        · omega
        · split at hc <;> omega
  have hp := (sg_pos h).1
  unfold sgn wneg
  by_cases c : sg f ≤ w
  · rw [if_pos (decide_eq_true c)]
    have h1 := Nat.mod_eq_sub_mod c
    rw [hz, Nat.mod_eq_of_lt (by omega)] at h1
    omega
  · rw [if_neg (by simpa using c)]
    rw [Nat.mod_eq_of_lt (by omega)] at hz
    exact hz
theorem Rem_j3 {f : Int} (h : isF f) {a b : Nat} (ha : a < 2 * sg f) (hb : b < 2 * sg f) (ha2 : cls f a < 4) (hb1 : cls f b ≠ 1) (hb2 : cls f b < 4) (ha1 : cls f a ≠ 1) :
    Ev (fun k => conv_Rem.j3 k f (a : Int) (b : Int) (wneg f a) false) ((remS f a b).1, (remS f a b).2, 0) := by
  have wa := wv_ok h ha1 ha2
  have wb := wv_ok h hb1 hb2
  obtain ⟨b1, b2, b3⟩ := wv_b h wa ha2
  obtain ⟨c1, c2, c3⟩ := wv_b h wb hb2
  have hl := left_ev wa.dy wb.dy wa.ne wb.ne b3 c3 b1 b2 c1 c2
  rw [wa.s] at hl
  have hl : Ev (fun k => conv_left.f k (wneg f a) (wv f a).2.1 (wv f a).2.2 (wv f b).1 (wv f b).2.1 (wv f b).2.2) (mk (remZ f a b) (remU f a b)) := hl
  rw [← wa.s] at hl
  obtain ⟨f1, f2, f3⟩ := rem_fits h ha1 ha2 hb1 hb2
  have hwd := wd_b h
  have hlo := lo_b h
  have hmy := my_of (z := remZ f a b) (e := remU f a b) ⟨by
    have h1 : bl (remZ f a b).natAbs ≤ pr f + 1 := bl_le_of_lt (Nat.lt_of_le_of_lt f1 (by rw [Nat.pow_succ]; have := pw_pos (pr f); omega))
    have := pr_eq h
    have := fb_le h
    omega, by omega, by omega⟩
  have hs := dyad_Sign_ev hmy
  have e2 : (sv (mk (remZ f a b) (remU f a b)).1 (V (mk (remZ f a b) (remU f a b)).2.1)).sign = (remZ f a b).sign := mk_sign _ _
  rw [e2] at hs
  have eS : remS f a b = if remZ f a b = 0 then ((sgn f (wneg f a) : Int), 0) else (((encN f (remZ f a b).natAbs (remU f a b) + sgn f (decide (remZ f a b < 0)) : Nat) : Int), 0) := by
    unfold remS
    rw [if_neg (by omega), if_neg (by omega), if_neg (by omega)]
  rw [eS]
  refine ev_step ?_
  simp only [conv_Rem.j3]
  refine ev_neg (by simp) ?_
  refine Ev.bind (word_Value_ev h ha ha2) ?_; try dsimp only
  refine Ev.bind (word_Value_ev h hb hb2) ?_; try dsimp only
  refine Ev.bind (hl) ?_; try dsimp only
  by_cases c : remZ f a b = 0
  · rw [if_pos c]
    rw [c] at hs ⊢
    rw [mk_zero] at hs ⊢
    refine Ev.bind (word_Of_zero h) ?_; try dsimp only
    refine Ev.bind (hs) ?_; try dsimp only
    refine ev_pos rfl ?_
    refine Ev.bind (word_Zero_ev h (wneg f a)) ?_; try dsimp only
    exact Ev.now _
  · rw [if_neg c]
    have hw := word_of_size h (decide (remZ f a b < 0)) (q := (remZ f a b).natAbs) (E := remU f a b) f1 f2 f3 (by omega)
    rw [sv_self] at hw
    refine Ev.bind (hw) ?_; try dsimp only
    refine Ev.bind (hs) ?_; try dsimp only
    refine ev_neg (fun h => c (by rcases sgn_cases (remZ f a b) with ⟨_, k⟩ | ⟨k, _⟩ | ⟨_, k⟩ <;> omega)) ?_
    exact Ev.now _
theorem conv_Rem_ev {f : Int} (h : isF f) {a b : Nat} (ha : a < 2 * sg f) (hb : b < 2 * sg f) : Ev (fun k => conv_Rem.f k f (a : Int) (b : Int)) ((remS f a b).1, (remS f a b).2, 0) := by
  have hm : isM 1 := ⟨by omega, by omega⟩
  have ca := cls_b h a
  have cb := cls_b h b
  unfold conv_Rem.f
  refine Ev.bind (conv_open_good h hm ha) ?_; try dsimp only
  refine ev_neg (by simp) ?_
  refine Ev.bind (conv_open_good h hm hb) ?_; try dsimp only
  refine ev_neg (by simp) ?_
  have r5 : cls f a = 5 ∨ cls f b = 5 → Ev (fun k => conv_Rem.j1 k f (a : Int) (b : Int) (cls f a) (wneg f a) (cls f b) true) ((remS f a b).1, (remS f a b).2, 0) := by
    intro c
    have eS : remS f a b = ((nanW f : Int), 0) := by unfold remS; rw [if_pos c]
    rw [eS]
    refine ev_step ?_
    simp only [conv_Rem.j1]
    refine ev_pos trivial ?_
    refine Ev.bind (word_None_ev h) ?_; try dsimp only
    exact Ev.now _
  by_cases c5 : cls f a = 5
  · exact ev_pos c5 (r5 (.inl c5))
  refine ev_neg c5 ?_
  by_cases d5 : cls f b = 5
  · have := r5 (.inr d5)
    rw [decide_eq_true d5]; exact this
  rw [decide_eq_false d5]
  refine ev_step ?_
  simp only [conv_Rem.j1]
  refine ev_neg (by simp) ?_
  have r4 : cls f a = 4 ∨ cls f b = 1 → Ev (fun k => conv_Rem.j2 k f (a : Int) (b : Int) (cls f a) (wneg f a) (cls f b) true) ((remS f a b).1, (remS f a b).2, 0) := by
    intro c
    have eS : remS f a b = ((nanW f : Int), 1) := by unfold remS; rw [if_neg (by omega), if_pos c]
    rw [eS]
    refine ev_step ?_
    simp only [conv_Rem.j2]
    refine ev_pos trivial ?_
    refine Ev.bind (word_None_ev h) ?_; try dsimp only
    exact Ev.now _
  by_cases c4 : cls f a = 4
  · exact ev_pos c4 (r4 (.inl c4))
  refine ev_neg c4 ?_
  by_cases d1 : cls f b = 1
  · rw [decide_eq_true d1]; exact r4 (.inr d1)
  rw [decide_eq_false d1]
  refine ev_step ?_
  simp only [conv_Rem.j2]
  refine ev_neg (by simp) ?_
  have r3 : cls f b = 4 ∨ cls f a = 1 → Ev (fun k => conv_Rem.j3 k f (a : Int) (b : Int) (wneg f a) true) ((remS f a b).1, (remS f a b).2, 0) := by
    intro c
    have eS : remS f a b = ((a : Int), 0) := by unfold remS; rw [if_neg (by omega), if_neg (by omega), if_pos c]
    rw [eS]
    refine ev_step ?_
    simp only [conv_Rem.j3]
    exact ev_pos trivial (Ev.now _)
  by_cases d4 : cls f b = 4
  · exact ev_pos d4 (r3 (.inl d4))
  refine ev_neg d4 ?_
  by_cases c1 : cls f a = 1
  · rw [decide_eq_true c1]; exact r3 (.inr c1)
  rw [decide_eq_false c1]
  exact Rem_j3 h ha hb (by omega) d1 (by omega) c1
/-! ### the reference -/
theorem rRem_sub {f : Int} (h : isF f) {a b : Nat} (ha1 : cls f a ≠ 1) (ha2 : cls f a < 4) (hb1 : cls f b ≠ 1) (hb2 : cls f b < 4) :
    addD (sv (wneg f a) (V (wv f a).2.1)) (wv f a).2.2 (-(sv (wneg f a != wneg f b) (rnE (remA f a b) (remB f a b)) * sv (wneg f b) (V (wv f b).2.1))) (0 + (wv f b).2.2) = mk (remZ f a b) (remU f a b) := by
  have e1 : remU f a b = min (wv f a).2.2 (0 + (wv f b).2.2) := by unfold remU; rw [Int.zero_add]
  rw [← addD_at (m := remU f a b) (by omega) (by omega)]
  congr 1
  have hA : al (sv (wneg f a) (V (wv f a).2.1)) (wv f a).2.2 (remU f a b) = sI (wneg f a) (remA f a b : Int) := by rw [al_sv]; rfl
  rw [hA]
  rw [sv_mul, ← sv_not, al_sv, Int.zero_add]
  have hB : rnE (remA f a b) (remB f a b) * V (wv f b).2.1 * 2 ^ ((wv f b).2.2 - remU f a b).toNat = rnE (remA f a b) (remB f a b) * remB f a b := by rw [Nat.mul_assoc]; rfl
  rw [hB]
  unfold remZ remI
  rw [← Int.natCast_mul]
  generalize rnE (remA f a b) (remB f a b) * remB f a b = p
  generalize remA f a b = q
  cases wneg f a <;> cases wneg f b <;> simp [sI, sv] <;> omega
theorem rRem_j2 {f : Int} (h : isF f) {a b : Nat} (ha : a < 2 * sg f) (ca : cls f a ≠ 4 ∧ cls f a ≠ 5) (d1 : cls f b ≠ 1) (d5 : cls f b ≠ 5) : Ev (fun k => cutplaneref06_Rem.j2 k f (a : Int) (b : Int) (cls f b) false) (remS f a b) := by
  have cb := cls_b h b
  have caa := cls_b h a
  refine ev_step ?_
  simp only [cutplaneref06_Rem.j2]
  refine ev_neg (by simp) ?_
  by_cases d4 : cls f b = 4
  · have eS : remS f a b = ((a : Int), 0) := by unfold remS; rw [if_neg (by omega), if_neg (by omega), if_pos (.inl d4)]
    rw [eS]
    exact ev_pos d4 (Ev.now _)
  refine ev_neg d4 ?_
  have wb := wv_ok h d1 (by omega)
  obtain ⟨c1, c2, c3⟩ := wv_b h wb (by omega)
  refine Ev.bind (rValue_ev h a) ?_; try dsimp only
  refine Ev.bind (rValue_ev h b) ?_; try dsimp only
  by_cases c : cls f a = 1
  · have hm0 : wmag f a = 0 := by
      rw [cls_eq h] at c
      unfold wmag
      by_cases c2 : wexpo f a = 0
      · rw [if_pos c2] at c ⊢
        by_cases c3 : wfrac f a = 0
        · exact c3
        · rw [if_neg c3] at c; omega
      · rw [if_neg c2] at c
        split at c
        · omega
        · split at c <;> omega
    have eS : remS f a b = ((a : Int), 0) := by unfold remS; rw [if_neg (by omega), if_neg (by omega), if_pos (.inr c)]
    rw [eS, hm0, sv_zero]
    have hn : Ev (fun k => cutplaneref06_nearest.f k (mk 0 (wex f a)).1 (mk 0 (wex f a)).2.1 (mk 0 (wex f a)).2.2 (mk (sv (wneg f b) (wmag f b)) (wex f b)).1 (mk (sv (wneg f b) (wmag f b)) (wex f b)).2.1 (mk (sv (wneg f b) (wmag f b)) (wex f b)).2.2) (mk 0 (wex f a)) := by
      unfold cutplaneref06_nearest.f
      refine ev_bind (rSign_mk 0 (wex f a)) ?_; try dsimp only
      exact ev_pos rfl (Ev.now _)
    refine Ev.bind (hn) ?_; try dsimp only
    have hb1 := wmag_bl h b
    have hb2 := wex_b h b
    have hb3 := wex_b h a
    have hpr := pr_eq h
    have hfb := fb_le h
    have r0 : Rg 0 (wex f a) := ⟨by decide, by omega, by omega⟩
    have hmul := rMul_mk r0 (zb := sv (wneg f b) (wmag f b)) (eb := wex f b) ⟨by rw [sv_abs]; omega, by omega, by omega⟩
    rw [Int.zero_mul] at hmul
    refine Ev.bind (hmul) ?_; try dsimp only
    have r1 : Rg 0 (wex f a + wex f b) := ⟨by decide, by omega, by omega⟩
    have hsub := rSub_mk r0 r1
    rw [Int.neg_zero, addD_zero_left] at hsub
    refine Ev.bind (hsub) ?_; try dsimp only
    refine Ev.bind (rOf_zero f _) ?_; try dsimp only
    refine ev_bind (rSign_mk 0 _) ?_; try dsimp only
    refine ev_pos rfl ?_
    refine ev_bind (rSplit_eq h a) ?_; try dsimp only
    have hsd := rSigned_eq h 0 (wneg f a)
    rw [Nat.zero_mod, Nat.zero_add] at hsd
    refine ev_bind (hsd) ?_; try dsimp only
    rw [← zero_word h ha c]
    exact Ev.now _
  · have wa := wv_ok h c (by omega)
    obtain ⟨b1, b2, b3⟩ := wv_b h wa (by omega)
    have hn := nearest_ev wa.dy wb.dy wa.ne wb.ne b3 c3 b1 b2 c1 c2
    rw [wa.s, wb.s] at hn
    have hn : Ev (fun k => cutplaneref06_nearest.f k (wneg f a) (wv f a).2.1 (wv f a).2.2 (wneg f b) (wv f b).2.1 (wv f b).2.2) (mk (sv (wneg f a != wneg f b) (rnE (remA f a b) (remB f a b))) 0) := hn
    rw [← wa.s] at hn
    rw [← wb.s] at hn
    rw [wa.s, wb.s] at hn
    have ea : (mk (sv (wneg f a) (wmag f a)) (wex f a)) = (wneg f a, (wv f a).2.1, (wv f a).2.2) := by show wv f a = _; rw [← wa.s]
    have eb : (mk (sv (wneg f b) (wmag f b)) (wex f b)) = (wneg f b, (wv f b).2.1, (wv f b).2.2) := by show wv f b = _; rw [← wb.s]
    rw [ea, eb]
    have hN : bl (rnE (remA f a b) (remB f a b)) ≤ 20000 := by
      have h1 : rnE (remA f a b) (remB f a b) ≤ remA f a b + 1 := by
        have := Nat.div_le_self (remA f a b) (remB f a b)
        unfold rnE; split <;> omega
      have h2 := bl_mono h1
      have h3 := bl_succ (remA f a b)
      have h4 : bl (remA f a b) ≤ bl (V (wv f a).2.1) + ((wv f a).2.2 - min (wv f a).2.2 (wv f b).2.2).toNat := bl_up_le _ _
      omega
    have mb : mk (sv (wneg f b) (V (wv f b).2.1)) (wv f b).2.2 = (wneg f b, (wv f b).2.1, (wv f b).2.2) := by
      have := mk_self wb.dy
      rw [wb.s] at this
      exact this
    have ma : mk (sv (wneg f a) (V (wv f a).2.1)) (wv f a).2.2 = (wneg f a, (wv f a).2.1, (wv f a).2.2) := by
      have := mk_self wa.dy
      rw [wa.s] at this
      exact this
    have rN : Rg (sv (wneg f a != wneg f b) (rnE (remA f a b) (remB f a b))) 0 := ⟨by rw [sv_abs]; omega, by omega, by omega⟩
    have rB : Rg (sv (wneg f b) (V (wv f b).2.1)) (wv f b).2.2 := ⟨by rw [sv_abs]; omega, by omega, by omega⟩
    have rA : Rg (sv (wneg f a) (V (wv f a).2.1)) (wv f a).2.2 := ⟨by rw [sv_abs]; omega, by omega, by omega⟩
    have hmul := rMul_mk rN rB
    rw [mb] at hmul
    refine Ev.bind (hn) ?_; try dsimp only
    refine Ev.bind (hmul) ?_; try dsimp only
    have hbl2 : bl (rnE (remA f a b) (remB f a b) * V (wv f b).2.1) ≤ 20100 := by
      have := bl_mul (rnE (remA f a b) (remB f a b)) (V (wv f b).2.1)
      omega
    have rP : Rg (sv (wneg f a != wneg f b) (rnE (remA f a b) (remB f a b)) * sv (wneg f b) (V (wv f b).2.1)) (0 + (wv f b).2.2) := ⟨by rw [sv_mul, sv_abs]; omega, by omega, by omega⟩
    have hsub := rSub_mk rA rP
    rw [ma, rRem_sub h c (by omega) d1 (by omega)] at hsub
    refine Ev.bind (hsub) ?_; try dsimp only
    have eS : remS f a b = if remZ f a b = 0 then ((sgn f (wneg f a) : Int), 0) else (((encN f (remZ f a b).natAbs (remU f a b) + sgn f (decide (remZ f a b < 0)) : Nat) : Int), 0) := by
      unfold remS
      rw [if_neg (by omega), if_neg (by omega), if_neg (by omega)]
    rw [eS]
    obtain ⟨f1, f2, f3⟩ := rem_fits h c (by omega) d1 (by omega)
    by_cases cz : remZ f a b = 0
    · rw [if_pos cz, cz]
      refine Ev.bind (rOf_zero f _) ?_; try dsimp only
      refine ev_bind (rSign_mk 0 _) ?_; try dsimp only
      refine ev_pos rfl ?_
      refine ev_bind (rSplit_eq h a) ?_; try dsimp only
      have hsd := rSigned_eq h 0 (wneg f a)
      rw [Nat.zero_mod, Nat.zero_add] at hsd
      refine ev_bind (hsd) ?_; try dsimp only
      exact Ev.now _
    · rw [if_neg cz]
      have hw := rword_of_size h (decide (remZ f a b < 0)) (q := (remZ f a b).natAbs) (E := remU f a b) f1 f2 f3 (by omega)
      rw [sv_self] at hw
      refine Ev.bind (hw) ?_; try dsimp only
      refine ev_bind (rSign_mk _ _) ?_; try dsimp only
      refine ev_neg (fun h => cz (by rcases sgn_cases (remZ f a b) with ⟨_, k⟩ | ⟨k, _⟩ | ⟨_, k⟩ <;> omega)) ?_
      exact Ev.now _
theorem rRem_ev {f : Int} (h : isF f) {a b : Nat} (ha : a < 2 * sg f) : Ev (fun k => cutplaneref06_Rem.f k f (a : Int) (b : Int)) (remS f a b) := by
  have ca := cls_b h a
  have cb := cls_b h b
  unfold cutplaneref06_Rem.f
  refine ev_bind (rClass_eq h a) ?_; try dsimp only
  refine ev_bind (rClass_eq h b) ?_; try dsimp only
  have r5 : cls f a = 5 ∨ cls f b = 5 → Ev (fun k => cutplaneref06_Rem.j0 k f (a : Int) (b : Int) (cls f a) (cls f b) true) (remS f a b) := by
    intro c
    have eS : remS f a b = ((nanW f : Int), 0) := by unfold remS; rw [if_pos c]
    rw [eS]
    refine ev_step ?_
    simp only [cutplaneref06_Rem.j0]
    refine ev_pos trivial ?_
    refine ev_bind (rNone_eq h) ?_; try dsimp only
    exact Ev.now _
  by_cases c5 : cls f a = 5
  · exact ev_pos c5 (r5 (.inl c5))
  refine ev_neg c5 ?_
  by_cases d5 : cls f b = 5
  · rw [decide_eq_true d5]; exact r5 (.inr d5)
  rw [decide_eq_false d5]
  refine ev_step ?_
  simp only [cutplaneref06_Rem.j0]
  refine ev_neg (by simp) ?_
  have r4 : cls f a = 4 ∨ cls f b = 1 → Ev (fun k => cutplaneref06_Rem.j2 k f (a : Int) (b : Int) (cls f b) true) (remS f a b) := by
    intro c
    have eS : remS f a b = ((nanW f : Int), 1) := by unfold remS; rw [if_neg (by omega), if_pos c]
    rw [eS]
    refine ev_step ?_
    simp only [cutplaneref06_Rem.j2]
    refine ev_pos trivial ?_
    refine ev_bind (rNone_eq h) ?_; try dsimp only
    exact Ev.now _
  by_cases c4 : cls f a = 4
  · exact ev_pos c4 (r4 (.inl c4))
  refine ev_neg c4 ?_
  by_cases d1 : cls f b = 1
  · rw [decide_eq_true d1]; exact r4 (.inr d1)
  rw [decide_eq_false d1]
  exact rRem_j2 h ha ⟨c4, c5⟩ d1 d5
/-! ### what is known -/
theorem known_ev : Ev (fun k => cutplanelaw06_known.f k) true := by
  have f1 : isF 1 := .inl rfl
  have f2 : isF 2 := .inr rfl
  have m4 : isM 4 := ⟨by omega, by omega⟩
  have h1 := conv_To_ev f2 f1 m4 (w := 4607182419068452864) (by decide)
  have e1 : toS 2 1 4 4607182419068452864 = (1065353217, 16) := by decide +kernel
  rw [e1] at h1
  have h2 := conv_Rem_ev f2 (a := 4617315517961601024) (b := 4613937818241073152) (by decide) (by decide)
  have e2 : remS 2 4617315517961601024 4613937818241073152 = (13830554455654793216, 0) := by decide +kernel
  rw [e2] at h2
  unfold cutplanelaw06_known.f
  refine Ev.bind (h1) ?_; try dsimp only
  refine Ev.bind (h2) ?_; try dsimp only
  refine ev_pos rfl (ev_pos rfl (ev_pos rfl (ev_pos rfl (ev_pos rfl ?_))))
  exact Ev.now _
end Go.Proofs.YtclegbgmhimenaaGreatDoor.Eng.K

/- ConvFormats and ConvRemainders: for every input they answer true. -/
set_option linter.unusedVariables false
set_option linter.unusedSimpArgs false
namespace Go.Proofs.YtclegbgmhimenaaGreatDoor.Eng.K
open Go.RowKit

theorem known_then : Ev (fun k => (cutplanelaw06_known.f k).bind fun t => some t) true := Ev.bind known_ev (Ev.now _)
/-- The error of a format, a mode and two words. -/
def opE2 (f m : Int) (a b : Nat) : Int := if opE f m a ≠ 0 then opE f m a else opE f m b
theorem opE_good {f m : Int} (h : isF f) (hm : isM m) (w : Nat) : opE f m w = goodE f w := by
  unfold opE; rw [if_neg (fun k => k (fmE_zero.2 ⟨h, hm⟩))]
theorem opE_fm {f m : Int} (h : fmE f m ≠ 0) (w : Nat) : opE f m w = fmE f m := by unfold opE; rw [if_pos h]
theorem goodE_six {f : Int} {w : Nat} (c : goodE f w ≠ 0) : goodE f w = 6 := by
  unfold goodE at c ⊢
  split at c
  · exact absurd rfl c
  · rw [if_neg (by assumption)]
theorem opens_two (f m : Int) {a b : Nat} (ha : a < 18446744073709551616) (hb : b < 18446744073709551616) : Ev (fun k => cutplanelaw06_opens.f k f m [(a : Int), (b : Int)]) (opE2 f m a b) := by
  unfold cutplanelaw06_opens.f
  refine ev_bind (rIs_eq f) ?_; try dsimp only
  by_cases h : isF f
  · rw [decide_eq_true h]
    refine ev_neg (by simp) ?_
    refine ev_bind (rIsM_eq m) ?_; try dsimp only
    by_cases hm : isM m
    · have eS : opE2 f m a b = if goodE f a ≠ 0 then goodE f a else goodE f b := by unfold opE2; rw [opE_good h hm, opE_good h hm]
      rw [decide_eq_true hm, eS]
      refine ev_neg (by simp) ?_
      have e1 : wrap64 (0 + 1) = 1 := by rw [w64n (by omega) (by omega)]; rfl
      have e2 : wrap64 (1 + 1) = 2 := by rw [w64n (by omega) (by omega)]; rfl
      have el : (([(a : Int), (b : Int)] : List Int).length : Int) = 2 := rfl
      have er : rd [(a : Int), (b : Int)] 0 = (a : Int) := rfl
      have er1 : rd [(a : Int), (b : Int)] 1 = (b : Int) := rfl
      refine ev_step ?_
      simp only [cutplanelaw06_opens.l0, el, er, e1]
      clear e1
      refine ev_pos (by clear e2; omega) (ev_pos (by clear e2; omega) (ev_pos (by clear e2; omega) ?_))
      refine ev_bind (rGood_eq h ha) ?_; try dsimp only
      by_cases c : goodE f a = 0
      · refine ev_neg (fun h => h c) (ev_step ?_)
        simp only [cutplanelaw06_opens.l0, el, er1, e2]
        clear e2
        refine ev_pos (by omega) (ev_pos (by omega) (ev_pos (by omega) ?_))
        refine ev_bind (rGood_eq h hb) ?_; try dsimp only
        by_cases c2 : goodE f b = 0
        · refine ev_neg (fun h => h c2) (ev_step ?_)
          simp only [cutplanelaw06_opens.l0]
          exact ev_neg (by simp) (ev_eq (Ev.now _) (by rw [if_neg (fun h => h c), c2]))
        · refine ev_pos c2 (ev_eq (Ev.now _) ?_)
          rw [if_neg (fun h => h c), goodE_six c2]
      · refine ev_pos c (ev_eq (Ev.now _) ?_)
        rw [if_pos c, goodE_six c]
    · have ef : fmE f m = 5 := by unfold fmE; rw [if_pos h, if_neg hm]
      have eS : opE2 f m a b = 5 := by unfold opE2; rw [opE_fm (by omega), if_pos (by omega), ef]
      rw [decide_eq_false hm, eS]
      exact ev_pos (by simp) (Ev.now _)
  · have ef : fmE f m = 4 := by unfold fmE; rw [if_neg h]
    have eS : opE2 f m a b = 4 := by unfold opE2; rw [opE_fm (by omega), if_pos (by omega), ef]
    rw [decide_eq_false h, eS]
    exact ev_pos (by simp) (Ev.now _)
theorem Rem_bad {f : Int} {a b : Nat} (h : opE2 f 1 a b ≠ 0) : Ev (fun k => conv_Rem.f k f (a : Int) (b : Int)) (0, 0, opE2 f 1 a b) := by
  unfold conv_Rem.f opE2 at *
  by_cases c : opE f 1 a = 0
  · rw [if_neg (fun h => h c)] at h ⊢
    obtain ⟨hf, hm, hw⟩ := opE_zero.1 c
    refine Ev.bind (conv_open_good hf hm hw) ?_; try dsimp only
    refine ev_neg (by simp) ?_
    refine Ev.bind (conv_open_bad h) ?_; try dsimp only
    exact ev_pos h (Ev.now _)
  · rw [if_pos c]
    refine Ev.bind (conv_open_bad c) ?_; try dsimp only
    exact ev_pos c (Ev.now _)
theorem Remainders_law (f : Int) {a b : Nat} (ha : a < 18446744073709551616) (hb : b < 18446744073709551616) : Ev (fun k => cutplanelaw06_ConvRemainders.f k f (a : Int) (b : Int)) true := by
  unfold cutplanelaw06_ConvRemainders.f
  by_cases c : opE2 f 1 a b = 0
  · have h1 : opE f 1 a = 0 := by
      unfold opE2 at c
      by_cases d : opE f 1 a = 0
      · exact d
      · rw [if_pos d] at c; exact c
    have h2 : opE f 1 b = 0 := by unfold opE2 at c; rw [if_neg (fun h => h h1)] at c; exact c
    obtain ⟨hf, hm, hwa⟩ := opE_zero.1 h1
    obtain ⟨_, _, hwb⟩ := opE_zero.1 h2
    refine Ev.bind (conv_Rem_ev hf hwa hwb) ?_; try dsimp only
    refine Ev.bind (opens_two f 1 ha hb) ?_; try dsimp only
    rw [c]
    refine ev_neg (by simp) ?_
    refine Ev.bind (rRem_ev hf hwa) ?_; try dsimp only
    refine ev_bind (is_yes) ?_; try dsimp only
    exact ev_pos (decide_eq_true ⟨rfl, rfl, rfl⟩) known_then
  · refine Ev.bind (Rem_bad c) ?_; try dsimp only
    refine Ev.bind (opens_two f 1 ha hb) ?_; try dsimp only
    refine ev_pos c ?_
    refine ev_bind (is_no c) ?_; try dsimp only
    exact ev_pos (decide_eq_true ⟨rfl, rfl, rfl⟩) known_then
theorem u64_nat {n : Int} (h : IntKind.u64.min ≤ n ∧ n ≤ IntKind.u64.max) : ∃ w : Nat, n = (w : Int) ∧ w < 18446744073709551616 := by
  simp [IntKind.min, IntKind.max, IntKind.signed, IntKind.bits] at h
  exact ⟨n.toNat, by omega, by omega⟩
theorem ConvRemainders (f a b : Int) (ha : IntKind.u64.min ≤ a ∧ a ≤ IntKind.u64.max) (hb : IntKind.u64.min ≤ b ∧ b ≤ IntKind.u64.max) : Ev (fun k => cutplanelaw06_ConvRemainders.f k f a b) true := by
  obtain ⟨n, rfl, hn⟩ := u64_nat ha
  obtain ⟨m, rfl, hm⟩ := u64_nat hb
  exact Remainders_law f hn hm
end Go.Proofs.YtclegbgmhimenaaGreatDoor.Eng.K

